/-
  Chapter 33 as plain functions, first part: parsing, the operations, find and value; no program. (Printed by lift.py, but for what the lexer answers.) Plain functions with fuel: what holds for all large fuel. No program. The table of operations, as a plain list for every order of the map of comparisons. (The pieces printed by lift.py.) The table of operations: what its pieces compute. The names' types; the table as one of many lists. No program. What find finds, in plain words, whatever order the table of operations is in. No program. The search ends alike in every order of the table; find, in plain words. No program. What value computes, in plain words, whatever order the table of operations is in. No program. Statute as plain functions: what is exported, the specification; no program. (Printed by lift.py.) Expressions and dossiers in memory, opened. Lists of clauses in memory, opened. Pairs of days and bytes, opened. Private vectors: slices that are written in place later. No program. Words for private vectors and arrays that are written in place. No program. A range over a function, in plain values. The iterator reads a slice of ints that is behind a box, and may write the array; the two are no places of the walk while the loop runs. The rule for a range over a function. A function that ranges over a function. Words for a range over a function. The contracts of slices.Sort and slices.Compact, laid at this program (written by the kit's own tools, in plain words). slices.Sort of ints, as a function of an array that is a place. Duty as plain functions. (Printed by lift.py.) What the laws of duty share, as plain functions. (Printed by lift.py.)
-/
import Derived.Lib.Join
import Derived.Lib.ItoaNum
import Derived.Lib.EndianBits
import Derived.Shelf.Sort.Plain
import Derived.Shelf.Slices.In.SortNone
import Derived.Shelf.Slices.CompactI
import Derived.Test.YtehfpameijkafaaGreatDoorProg
import Derived.Test.YtehfpameijkafaaGreatDoorU4
import Derived.Test.YtehfpameijkafaaGreatDoorU6
import Derived.Test.YtehfpameijkafaaGreatDoorU9
import Derived.Test.YtehfpameijkafaaGreatDoorU10
set_option linter.unusedVariables false
set_option linter.unusedSimpArgs false
namespace Go.Sp
open Go Go.Vl
set_option linter.unusedVariables false
structure Ap where
 Kind:Int
 At:Int
 S:Ä
 N:Int
def EY (x:Ap):List PV:=[iP x.Kind,iP x.At,tP x.S,iP x.N]
theorem Ju (x:Ap):EY x=[iP x.Kind,iP x.At,tP x.S,iP x.N]:=rfl
theorem IT (x:Ap):(EY x).length=4:=rfl
def Co:Rw Ap:=⟨EY,_,4,Ju,IT⟩
structure An where
 At:Int
 E:Int
structure AM where
 sign:Ä
 op:Int
 level:Int
def Ez (x:AM):List PV:=[tP x.sign,iP x.op,iP x.level]
theorem LS (x:AM):Ez x=[tP x.sign,iP x.op,iP x.level]:=rfl
theorem Lb (x:AM):(Ez x).length=3:=rfl
def ER:Rw AM:=⟨Ez,_,3,LS,Lb⟩
structure Ad where
 l:(List Ap)
 forms:Int
structure Ag where
 Op:Int
 N:Int
 S:Ä
 Kids:(List Ag)
 At:Int
mutual
def Bf:Ag->List PV
 |.mk fOp fN fS fKids fAt=>[iP fOp,iP fN,tP fS,.sl (Hq fKids) .shared,iP fAt]
def Hq:List Ag->List (List PV)
 | []=>[]
 |x::l=>Bf x::Hq l
end
theorem Jt:∀ l:List Ag,Hq l=l.map Bf
 | []=>rfl
 |x::l=>by rw [Hq,Jt l];rfl
theorem Gi (x:Ag):Bf x=[iP x.Op,iP x.N,tP x.S,hP x.Kids Bf,iP x.At]:=by
 cases x;rw [Bf];simp only [Jt]
theorem Jw (x:Ag):(Bf x).length=5:=by rw [Gi];rfl
def B4:Rw Ag:=⟨Bf,_,5,Gi,Jw⟩
structure BD where
 Kind:Int
 N:Int
 S:Ä
 E:Ag
 At:Int
def FG (x:BD):List PV:=[iP x.Kind,iP x.N,tP x.S,iP x.E.Op,iP x.E.N,tP x.E.S,hP x.E.Kids Bf,iP x.E.At,iP x.At]
theorem PI (x:BD):FG x=[iP x.Kind,iP x.N,tP x.S,iP x.E.Op,iP x.E.N,tP x.E.S,hP x.E.Kids Bf,iP x.E.At,iP x.At]:=rfl
theorem OQ (x:BD):(FG x).length=9:=rfl
def Bq:Rw BD:=⟨FG,_,9,PI,OQ⟩
structure Az where
 Word:Ä
 Args:(List BD)
 Body:(List Az)
 At:Int
mutual
def Cp:Az->List PV
 |.mk fWord fArgs fBody fAt=>[tP fWord,hP fArgs FG,.sl (Hp fBody) .shared,iP fAt]
def Hp:List Az->List (List PV)
 | []=>[]
 |x::l=>Cp x::Hp l
end
theorem Js:∀ l:List Az,Hp l=l.map Cp
 | []=>rfl
 |x::l=>by rw [Hp,Js l];rfl
theorem Gg (x:Az):Cp x=[tP x.Word,hP x.Args FG,hP x.Body Cp,iP x.At]:=by
 cases x;rw [Cp];simp only [Js]
theorem Hi (x:Az):(Cp x).length=4:=by rw [Gg];rfl
def E6:Rw Az:=⟨Cp,_,4,Gg,Hi⟩
structure Ao where
 At:Int
 E:Int
structure BA where
 Kind:Int
 Who:Int
 Day:Int
 Known:Int
def Ds (x:BA):List PV:=[iP x.Kind,iP x.Who,iP x.Day,iP x.Known]
theorem Ky (x:BA):Ds x=[iP x.Kind,iP x.Who,iP x.Day,iP x.Known]:=rfl
theorem Jv (x:BA):(Ds x).length=4:=rfl
def Ci:Rw BA:=⟨Ds,_,4,Ky,Jv⟩
structure Al where
 Facts:(List BA)
 Stored:Int
 Owner:Int
def HL (x:Al):List PV:=[hP x.Facts Ds,iP x.Stored,iP x.Owner]
theorem I2 (x:Al):HL x=[hP x.Facts Ds,iP x.Stored,iP x.Owner]:=rfl
structure Ah where
 d:Al
 known:Int
structure Aa where
 op:Int
 name:Ä
 args:(List Int)
 kind:Int
 do_:Do
def BL (x:Int):List PV:=[iP x]
theorem Bv (x:Int):BL x=[iP x]:=rfl
theorem Lc (x:Int):(BL x).length=1:=rfl
def AG:Rw Int:=⟨BL,_,1,Bv,Lc⟩
def AV (x:Aa):List PV:=[iP x.op,tP x.name,hP x.args BL,iP x.kind,.fno (Lq x.do_) (Kg x.do_) (Kz x.do_)]
theorem BO (x:Aa):AV x=[iP x.op,tP x.name,hP x.args BL,iP x.kind,.fno (Lq x.do_) (Kg x.do_) (Kz x.do_)]:=rfl
theorem Cg (x:Aa):(AV x).length=5:=rfl
def H6:Rw Aa:=⟨AV,_,5,BO,Cg⟩
structure AZ where
 ops:(List Aa)
 names:(List (ByteArray×Int))
def FF (x:Ä):List PV:=[tP x]
theorem Jk (x:Ä):FF x=[tP x]:=rfl
theorem La (x:Ä):(FF x).length=1:=rfl
def L8:Rw Ä:=⟨FF,_,1,Jk,La⟩
def tkT (t:Lx.Tok):Ap:=⟨(t.kind:Int),(t.at_:Int),⟨⟨t.s⟩⟩,(t.n:Int)⟩
def Qc (src:Ä):List Ap×An :=
 if 65536<src.size then ([],⟨0,2⟩)
 else match Lx.tokens src.data.toList with
  |.ok ts=>(ts.map tkT,⟨0,0⟩)
  |.error (p,e)=>([],⟨(p:Int),(e:Int)⟩)
def RA (src:Ä):Option (List Ap×An):=some (Qc src)
def Gl:Option (List AM) :=
 (some [(AM.mk ⟨#[42]⟩ 7 6),(AM.mk ⟨#[47]⟩ 8 6),(AM.mk ⟨#[37]⟩ 9 6),(AM.mk ⟨#[43]⟩ 10 5),(AM.mk ⟨#[45]⟩ 11 5),(AM.mk ⟨#[61,61]⟩ 12 4),(AM.mk ⟨#[33,61]⟩ 13 4),(AM.mk ⟨#[60]⟩ 14 4),(AM.mk ⟨#[60,61]⟩ 15 4),(AM.mk ⟨#[62]⟩ 16 4),(AM.mk ⟨#[62,61]⟩ 17 4),(AM.mk ⟨#[38,38]⟩ 18 2),(AM.mk ⟨#[124,124]⟩ 19 1)]).bind fun l =>
 some l
def Bi (p:Ad)(e:Int):Option (Ex Ao Ad Unit) :=
 (gi p.l 0).bind fun x =>
 some (.pan (Ao.mk x.At e) p)
def AL (p:Ad):Option (Ap×Ad) :=
 (gi p.l 0).bind fun x =>
 (YK p.l 1 (p.l.length:Int)).bind fun l =>
 some (x,(Ad.mk l p.forms))
def Be (p:Ad)(s:Ä):Option Bool :=
 (((gi p.l 0).bind fun x =>
 bif (x.Kind == 4) then
  some (decide (x.S=s))
 else
  some false
 ):Option Bool).bind fun v4 =>
  some v4
def Dk (p:Ad):Option Bool :=
 (gi p.l 0).bind fun x =>
 ((bif (x.Kind == 1) then
  some (x.Kind == 1)
 else
  bif (x.Kind == 2) then
   some (x.Kind == 2)
  else
   some (x.Kind == 3)
 ):Option Bool).bind fun v10 =>
  bif v10 then
   some true
  else
   (((Be p ⟨#[40]⟩).bind fun i =>
   bif i then
    some true
   else
    (Be p ⟨#[45]⟩).bind fun i1 =>
    some i1
   ):Option Bool).bind fun v2 =>
    some v2
def FX (p:Ad):Option (Ex Ao Ad Int) :=
 (gi p.l 0).bind fun x =>
 bif (x.Kind != 2) then
  (Bi p 5).bind fun y=>match y with
  |.ok f p1 =>
   (AL p1).bind fun n_ =>
   some (.ok n_.1.N n_.2)
  |.pan e p2=>some (.pan e p2)
 else
  (AL p).bind fun n_1 =>
  some (.ok n_1.1.N n_1.2)
def Df (p:Ad)(depth:Int)(not_:Bool):Option (Ex Ao Ad Unit) :=
 (((Dk p).bind fun b =>
 bif (!b) then
  bif not_ then
   (Be p ⟨#[33]⟩).bind fun i =>
   some (!i)
  else
   some true
 else
  some false
 ):Option Bool).bind fun v16 =>
  ((bif v16 then
   (Bi p 5).bind fun y3=>match y3 with
   |.ok f1 p5 =>
    some (.inl (p5.l,p5.forms))
   |.pan e3 p6=>some (.inr (.pan e3 p6))
  else
   some (.inl (p.l,p.forms))
  ):Option (((List Ap)×Int) ⊕ (Ex Ao Ad Unit))).bind fun y1=>match y1 with
  |.inl (p1,p2) =>
   bif (decide (30<depth)) then
    (Bi (Ad.mk p1 p2) 2).bind fun y2=>match y2 with
    |.ok f p3 =>
     some (.ok () p3)
    |.pan e2 p4=>some (.pan e2 p4)
   else
    some (.ok () (Ad.mk p1 p2))
  |.inr o=>some o
def De (p:Ad)(s:Ä):Option (Ex Ao Ad Unit) :=
 (Be p s).bind fun i =>
 bif (!i) then
  (Bi p 5).bind fun y=>match y with
  |.ok f p1 =>
   (AL p1).bind fun n_ =>
   some (.ok () n_.2)
  |.pan e p2=>some (.pan e p2)
 else
  (AL p).bind fun n_1 =>
  some (.ok () n_1.2)
def E2 (p:(List Ap))(p1:Int)(n_:Int)(q:Int)(q1:Int)(q2:Ä)(q3:(List Ag))(q4:Int)(e:Int)(e1:Int)(e2:Ä)(e3:(List Ag))(e4:Int)(b:AM):Option Bool :=
 ((bif (b.level == n_) then
  (Be (Ad.mk p p1) b.sign).bind fun i =>
  some i
 else
  some false
 ):Option Bool).bind fun v4 =>
  some v4
def Cc:Nat->(List AM)->(List Ap)->Int->Int->Int->Int->Ä->(List Ag)->Int->Int->Int->Ä->(List Ag)->Int->Int->Option (Unit ⊕ Int)
 |0,_,_,_,_,_,_,_,_,_,_,_,_,_,_,_=>none
 |n+1,s,p,p1,n_,q,q1,q2,q3,q4,e,e1,e2,e3,e4,v8 =>
  bif (decide (v8<(s.length:Int))) then
   (gi s v8).bind fun x =>
   (E2 p p1 n_ q q1 q2 q3 q4 e e1 e2 e3 e4 x).bind fun l =>
   bif l then
    some (.inr v8)
   else
    Cc n s p p1 n_ q q1 q2 q3 q4 e e1 e2 e3 e4 (À (v8+1))
  else
   some (.inl ())
def Dr (n:Nat)(p:(List Ap))(p1:Int)(n_:Int)(q:Int)(q1:Int)(q2:Ä)(q3:(List Ag))(q4:Int)(e:Int)(e1:Int)(e2:Ä)(e3:(List Ag))(e4:Int)(s:(List AM)):Option Int :=
 ((Cc n s p p1 n_ q q1 q2 q3 q4 e e1 e2 e3 e4 0
 ):Option (Unit ⊕ Int)).bind fun y=>match y with
 |.inl _ =>
  some (-1)
 |.inr o=>some o
mutual
def AQ:Nat->Ad->Int->Option (Ex Ao Ad Ag)
 |0,_,_=>none
 |n+1,p,depth =>
  (Df p depth true).bind fun y=>match y with
  |.ok d p1 =>
   (Bd n p1 1 depth).bind fun y1=>match y1 with
   |.ok e1 p3 =>
    (Be p3 ⟨#[63]⟩).bind fun i =>
    bif (!i) then
     some (.ok e1 p3)
    else
     (AL p3).bind fun n_ =>
     (AQ n n_.2 (À (depth+1))).bind fun y2=>match y2 with
     |.ok a_ p5 =>
      (De p5 ⟨#[58]⟩).bind fun y3=>match y3 with
      |.ok n_1 p7 =>
       (AQ n p7 (À (depth+1))).bind fun y4=>match y4 with
       |.ok e5 p9 =>
        (some [e1,a_,e5]).bind fun l =>
        some (.ok (Ag.mk 20 0 ⟨#[]⟩ l e1.At) p9)
       |.pan e6 p10=>some (.pan e6 p10)
      |.pan e4 p8=>some (.pan e4 p8)
     |.pan e3 p6=>some (.pan e3 p6)
   |.pan e2 p4=>some (.pan e2 p4)
  |.pan e p2=>some (.pan e p2)
def DG:Nat->Int->Ag->Int->(List Ap)->Int->Int->Int->Ä->(List Ag)->Option (Ex Ao Ad Ag)
 |0,_,_,_,_,_,_,_,_,_=>none
 |n+1,n_1,e2,depth,p5,p6,e4,e5,e6,e7 =>
  (Gl).bind fun o_ =>
  (Dr n p5 p6 n_1 0 0 ⟨#[]⟩ [] 0 e4 e5 e6 e7 e2.At o_).bind fun k =>
  bif (decide (k<0)) then
   some (.ok (Ag.mk e4 e5 e6 e7 e2.At) (Ad.mk p5 p6))
  else
   (AL (Ad.mk p5 p6)).bind fun n_3 =>
   (Gl).bind fun o_1 =>
   (gi o_1 k).bind fun x =>
   (Bd n n_3.2 (À (n_1+1)) depth).bind fun y3=>match y3 with
   |.ok l p7 =>
    (some [(Ag.mk e4 e5 e6 e7 e2.At),l]).bind fun l1 =>
    bif (n_1 == 4) then
     some (.ok (Ag.mk x.op 0 ⟨#[]⟩ l1 e2.At) p7)
    else
     DG n n_1 e2 depth p7.l p7.forms x.op 0 ⟨#[]⟩ l1
   |.pan e8 p8=>some (.pan e8 p8)
def Bd:Nat->Ad->Int->Int->Option (Ex Ao Ad Ag)
 |0,_,_,_=>none
 |n+1,p,n_,depth =>
  ((bif (n_ == 3) then
   (Be p ⟨#[33]⟩).bind fun i =>
   bif i then
    (AL p).bind fun n_4 =>
    (Df n_4.2 (À (depth+1)) true).bind fun y4=>match y4 with
    |.ok d p9 =>
     (Bd n p9 3 (À (depth+1))).bind fun y5=>match y5 with
     |.ok l2 p11 =>
      (some [l2]).bind fun l3 =>
      some (.inr (.ok (Ag.mk 5 0 ⟨#[]⟩ l3 n_4.1.At) p11))
     |.pan e10 p12=>some (.inr (.pan e10 p12))
    |.pan e9 p10=>some (.inr (.pan e9 p10))
   else
    some (.inl (À (n_+1)))
  else
   some (.inl n_)
  ):Option (Int ⊕ (Ex Ao Ad Ag))).bind fun y=>match y with
  |.inl n_1 =>
   bif (n_1 == 7) then
    (B8 n p depth).bind fun y1=>match y1 with
    |.ok n_2 p1 =>
     some (.ok n_2 p1)
    |.pan e1 p2=>some (.pan e1 p2)
   else
    (Bd n p (À (n_1+1)) depth).bind fun y2=>match y2 with
    |.ok e2 p3 =>
     DG n n_1 e2 depth p3.l p3.forms e2.Op e2.N e2.S e2.Kids
    |.pan e3 p4=>some (.pan e3 p4)
  |.inr o=>some o
def B8:Nat->Ad->Int->Option (Ex Ao Ad Ag)
 |0,_,_=>none
 |n+1,p,depth =>
  (Be p ⟨#[45]⟩).bind fun i =>
  bif (!i) then
   (BB n p depth).bind fun y=>match y with
   |.ok a_ p1 =>
    some (.ok a_ p1)
   |.pan e p2=>some (.pan e p2)
  else
   (AL p).bind fun n_ =>
   (Df n_.2 (À (depth+1)) false).bind fun y1=>match y1 with
   |.ok d p3 =>
    (B8 n p3 (À (depth+1))).bind fun y2=>match y2 with
    |.ok n_1 p5 =>
     (some [n_1]).bind fun l =>
     some (.ok (Ag.mk 6 0 ⟨#[]⟩ l n_.1.At) p5)
    |.pan e2 p6=>some (.pan e2 p6)
   |.pan e1 p4=>some (.pan e1 p4)
def CU:Nat->Int->(List Ap)->Int->(List Ag)->Option (((List Ap)×Int×(List Ag)) ⊕ (Ex Ao Ad Ag))
 |0,_,_,_,_=>none
 |n+1,depth,p5,p6,e3 =>
  (Be (Ad.mk p5 p6) ⟨#[41]⟩).bind fun i1 =>
  bif (!i1) then
   ((bif (decide (0<(e3.length:Int))) then
    (De (Ad.mk p5 p6) ⟨#[44]⟩).bind fun y7=>match y7 with
    |.ok n_2 p17 =>
     some (.inl (p17.l,p17.forms))
    |.pan e11 p18=>some (.inr (.pan e11 p18))
   else
    some (.inl (p5,p6))
   ):Option (((List Ap)×Int) ⊕ (Ex Ao Ad Ag))).bind fun y2=>match y2 with
   |.inl (p7,p8) =>
    bif ((e3.length:Int) == 40) then
     (Df (Ad.mk p7 p8) 0 true).bind fun y3=>match y3 with
     |.ok d p9 =>
      (Bi p9 2).bind fun y4=>match y4 with
      |.ok f p11 =>
       (AQ n p11 (À (depth+1))).bind fun y5=>match y5 with
       |.ok e7 p13 =>
        (some [e7]).bind fun l =>
        (Cs 65 e3 l).bind fun l1 =>
        CU n depth p13.l p13.forms l1
       |.pan e8 p14=>some (.inr (.pan e8 p14))
      |.pan e6 p12=>some (.inr (.pan e6 p12))
     |.pan e5 p10=>some (.inr (.pan e5 p10))
    else
     (AQ n (Ad.mk p7 p8) (À (depth+1))).bind fun y6=>match y6 with
     |.ok e9 p15 =>
      (some [e9]).bind fun l2 =>
      (Cs 65 e3 l2).bind fun l3 =>
      CU n depth p15.l p15.forms l3
     |.pan e10 p16=>some (.inr (.pan e10 p16))
   |.inr o=>some (.inr o)
  else
   some (.inl (p5,p6,e3))
def BB:Nat->Ad->Int->Option (Ex Ao Ad Ag)
 |0,_,_=>none
 |n+1,p,depth =>
  (Dk p).bind fun b =>
  ((bif (!b) then
   (Bi p 5).bind fun y10=>match y10 with
   |.ok f1 p23 =>
    some (.inl (p23.l,p23.forms))
   |.pan e15 p24=>some (.inr (.pan e15 p24))
  else
   some (.inl (p.l,p.forms))
  ):Option (((List Ap)×Int) ⊕ (Ex Ao Ad Ag))).bind fun y=>match y with
  |.inl (p1,p2) =>
   (AL (Ad.mk p1 p2)).bind fun t =>
   bif (t.1.Kind == 2) then
    some (.ok (Ag.mk 1 t.1.N t.1.S [] t.1.At) t.2)
   else
    bif (t.1.Kind == 3) then
     some (.ok (Ag.mk 2 t.1.N t.1.S [] t.1.At) t.2)
    else
     bif (t.1.Kind == 1) then
      (Be t.2 ⟨#[40]⟩).bind fun i =>
      bif (!i) then
       some (.ok (Ag.mk 3 t.1.N t.1.S [] t.1.At) t.2)
      else
       (AL t.2).bind fun n_ =>
       ((CU n depth n_.2.l n_.2.forms []
       ):Option (((List Ap)×Int×(List Ag)) ⊕ (Ex Ao Ad Ag))).bind fun y1=>match y1 with
       |.inl (p3,p4,e1) =>
        (AL (Ad.mk p3 p4)).bind fun n_1 =>
        some (.ok (Ag.mk 4 t.1.N t.1.S e1 t.1.At) n_1.2)
       |.inr o=>some o
     else
      (AQ n t.2 (À (depth+1))).bind fun y8=>match y8 with
      |.ok e12 p19 =>
       (De p19 ⟨#[41]⟩).bind fun y9=>match y9 with
       |.ok n_3 p21 =>
        some (.ok e12 p21)
       |.pan e14 p22=>some (.pan e14 p22)
      |.pan e13 p20=>some (.pan e13 p20)
  |.inr o=>some o
end
def FO (n:Nat)(p:Ad):Option (Ex Ao Ad BD) :=
 (AL p).bind fun t =>
 bif (t.1.Kind == 1) then
  some (.ok (BD.mk 1 t.1.N t.1.S (Ag.mk 0 0 ⟨#[]⟩ [] 0) t.1.At) t.2)
 else
  bif (t.1.Kind == 2) then
   some (.ok (BD.mk 2 t.1.N t.1.S (Ag.mk 0 0 ⟨#[]⟩ [] 0) t.1.At) t.2)
  else
   bif (t.1.Kind == 3) then
    some (.ok (BD.mk 3 t.1.N t.1.S (Ag.mk 0 0 ⟨#[]⟩ [] 0) t.1.At) t.2)
   else
    bif (decide (t.1.S=⟨#[45]⟩)) then
     (FX t.2).bind fun y=>match y with
     |.ok n_ p1 =>
      some (.ok (BD.mk 2 (À (0-n_)) ⟨#[]⟩ (Ag.mk 0 0 ⟨#[]⟩ [] 0) t.1.At) p1)
     |.pan e p2=>some (.pan e p2)
    else
     bif (decide (t.1.S=⟨#[45,62]⟩)) then
      some (.ok (BD.mk 4 t.1.N ⟨#[]⟩ (Ag.mk 0 0 ⟨#[]⟩ [] 0) t.1.At) t.2)
     else
      bif (decide (t.1.S=⟨#[40]⟩)) then
       (AQ n t.2 1).bind fun y1=>match y1 with
       |.ok e1 p3 =>
        (De p3 ⟨#[41]⟩).bind fun y2=>match y2 with
        |.ok n_1 p5 =>
         some (.ok (BD.mk 5 t.1.N ⟨#[]⟩ e1 t.1.At) p5)
        |.pan e3 p6=>some (.pan e3 p6)
       |.pan e2 p4=>some (.pan e2 p4)
      else
       some (.ok (BD.mk 0 t.1.N ⟨#[]⟩ (Ag.mk 0 0 ⟨#[]⟩ [] 0) t.1.At) t.2)
mutual
def DX:Nat->Int->(List Ap)->Int->(List Az)->Option (((List Ap)×Int×(List Az)) ⊕ (Ex Ao Ad Az))
 |0,_,_,_,_=>none
 |n+1,depth,p9,p10,f2 =>
  (Be (Ad.mk p9 p10) ⟨#[125]⟩).bind fun i =>
  bif (!i) then
   (BU n (Ad.mk p9 p10) (À (depth+1))).bind fun y5=>match y5 with
   |.ok f3 p11 =>
    (some [f3]).bind fun l =>
    (Cs 73 f2 l).bind fun l1 =>
    DX n depth p11.l p11.forms l1
   |.pan e5 p12=>some (.inr (.pan e5 p12))
  else
   some (.inl (p9,p10,f2))
def CT:Nat->(List Ap)->Int->(List BD)->Option (((List Ap)×Int×(List BD)) ⊕ (Ex Ao Ad Az))
 |0,_,_,_=>none
 |n+1,p13,p14,f4 =>
  (((Be (Ad.mk p13 p14) ⟨#[59]⟩).bind fun i2 =>
  bif (!i2) then
   (Be (Ad.mk p13 p14) ⟨#[123]⟩).bind fun i3 =>
   some (!i3)
  else
   some false
  ):Option Bool).bind fun v49 =>
   bif v49 then
    (((Dk (Ad.mk p13 p14)).bind fun b =>
    bif (!b) then
     (Be (Ad.mk p13 p14) ⟨#[45,62]⟩).bind fun i1 =>
     some (!i1)
    else
     some false
    ):Option Bool).bind fun v57 =>
     ((bif v57 then
      (Bi (Ad.mk p13 p14) 5).bind fun y12=>match y12 with
      |.ok f6 p23 =>
       some (.inl (p23.l,p23.forms))
      |.pan e12 p24=>some (.inr (.pan e12 p24))
     else
      some (.inl (p13,p14))
     ):Option (((List Ap)×Int) ⊕ (Ex Ao Ad Az))).bind fun y8=>match y8 with
     |.inl (p15,p16) =>
      bif ((f4.length:Int) == 40) then
       (Bi (Ad.mk p15 p16) 2).bind fun y9=>match y9 with
       |.ok f5 p17 =>
        (FO n p17).bind fun y10=>match y10 with
        |.ok a_ p19 =>
         (some [a_]).bind fun l2 =>
         (Cs 105 f4 l2).bind fun l3 =>
         CT n p19.l p19.forms l3
        |.pan e10 p20=>some (.inr (.pan e10 p20))
       |.pan e9 p18=>some (.inr (.pan e9 p18))
      else
       (FO n (Ad.mk p15 p16)).bind fun y11=>match y11 with
       |.ok a_1 p21 =>
        (some [a_1]).bind fun l4 =>
        (Cs 105 f4 l4).bind fun l5 =>
        CT n p21.l p21.forms l5
       |.pan e11 p22=>some (.inr (.pan e11 p22))
     |.inr o=>some (.inr o)
   else
    some (.inl (p13,p14,f4))
def BU:Nat->Ad->Int->Option (Ex Ao Ad Az)
 |0,_,_=>none
 |n+1,p,depth =>
  (gi p.l 0).bind fun x =>
  ((bif (x.Kind != 1) then
   (Bi p 5).bind fun y14=>match y14 with
   |.ok f8 p27 =>
    some (.inl (p27.l,p27.forms))
   |.pan e14 p28=>some (.inr (.pan e14 p28))
  else
   some (.inl (p.l,p.forms))
  ):Option (((List Ap)×Int) ⊕ (Ex Ao Ad Az))).bind fun y=>match y with
  |.inl (p1,p2) =>
   ((bif (decide (30<depth)) then
    some true
   else
    some (decide (2000<(À (p2+1))))
   ):Option Bool).bind fun v32 =>
    ((bif v32 then
     (Bi (Ad.mk p1 (À (p2+1))) 2).bind fun y13=>match y13 with
     |.ok f7 p25 =>
      some (.inl (p25.l,p25.forms))
     |.pan e13 p26=>some (.inr (.pan e13 p26))
    else
     some (.inl (p1,(À (p2+1))))
    ):Option (((List Ap)×Int) ⊕ (Ex Ao Ad Az))).bind fun y2=>match y2 with
    |.inl (p3,p4) =>
     (AL (Ad.mk p3 p4)).bind fun t =>
     ((CT n t.2.l t.2.forms []
     ):Option (((List Ap)×Int×(List BD)) ⊕ (Ex Ao Ad Az))).bind fun y3=>match y3 with
     |.inl (p5,p6,f) =>
      (AL (Ad.mk p5 p6)).bind fun n_ =>
      bif (decide (n_.1.S=⟨#[59]⟩)) then
       some (.ok (Az.mk t.1.S f [] t.1.At) n_.2)
      else
       ((DX n depth n_.2.l n_.2.forms []
       ):Option (((List Ap)×Int×(List Az)) ⊕ (Ex Ao Ad Az))).bind fun y4=>match y4 with
       |.inl (p7,p8,f1) =>
        (AL (Ad.mk p7 p8)).bind fun n_1 =>
        some (.ok (Az.mk t.1.S f f1 t.1.At) n_1.2)
       |.inr o=>some o
     |.inr o=>some o
    |.inr o=>some o
  |.inr o=>some o
end
def Eo:Nat->(List Az)->(List Ap)->Int->Option (((List Az)×(List Ap)×Int) ⊕ (Ex Ao ((List Az)×(List Ap)×Int) Unit))
 |0,_,_,_=>none
 |n+1,out2,q6,q7 =>
  (gi q6 0).bind fun x =>
  bif (x.Kind != 5) then
   (BU n (Ad.mk q6 q7) 1).bind fun y1=>match y1 with
   |.ok f s =>
    (Cs 73 out2 [f]).bind fun out3 =>
    Eo n out3 s.l s.forms
   |.pan e1 s1=>some (.inr (.pan e1 (out2,s1.l,s1.forms)))
  else
   some (.inl (out2,q6,q7))
def Hj (n:Nat)(q:Int)(q1:Int)(out:(List Az))(bad:Int)(bad1:Int)(q2:(List Ap))(q3:Int):Option (Ex Ao ((List Az)×(List Ap)×Int) Unit) :=
 ((Eo n out q2 q3
 ):Option (((List Az)×(List Ap)×Int) ⊕ (Ex Ao ((List Az)×(List Ap)×Int) Unit))).bind fun y=>match y with
 |.inl (out1,q4,q5) =>
  some (.ok () (out1,q4,q5))
 |.inr o=>some o
def Gk (n:Nat)(q:Int)(q1:Int)(out:(List Az))(src:Ä):Option (An×(List Az)) :=
 (RA src).bind fun t =>
 bif (t.2.E != 0) then
  some (t.2,out)
 else
  (Hj n q q1 out t.2.At t.2.E t.1 0).bind fun y=>match y with
  |.ok f c =>
   (gi c.2.1 0).bind fun x =>
   bif (x.Kind != 5) then
    (Bi (Ad.mk c.2.1 c.2.2) 5).bind fun y1=>match y1 with
    |.ok f1 s =>
     some ((An.mk 0 0),c.1)
    |.pan e1 s1=>some ((An.mk e1.At e1.E),c.1)
   else
    some ((An.mk 0 0),c.1)
  |.pan e c1=>some ((An.mk e.At e.E),c1.1)
def Lh (n:Nat)(src:Ä):Option ((List Az)×An) :=
 (Gk n 0 0 [] src).bind fun bad =>
 bif (bad.1.E != 0) then
  some ([],bad.1)
 else
  some (bad.2,bad.1)
def FC (m_:Ah)(x:(List Int)):Option Int :=
 (gi x 0).bind fun x1 =>
 some (À (0-x1))
def ES (x:Int)(y:Int):Option (Int×Int) :=
 some ((IntKind.u64.wrap ((IntKind.u64.wrap ((IntKind.u64.wrap ((x.fdiv (2 ^ min (32:Int).toNat IntKind.u64.bits))*(y.fdiv (2 ^ min (32:Int).toNat IntKind.u64.bits))))+((IntKind.u64.wrap ((IntKind.u64.wrap ((x.fdiv (2 ^ min (32:Int).toNat IntKind.u64.bits))*(bits .and .u64 y 4294967295)))+((IntKind.u64.wrap ((bits .and .u64 x 4294967295)*(bits .and .u64 y 4294967295))).fdiv (2 ^ min (32:Int).toNat IntKind.u64.bits)))).fdiv (2 ^ min (32:Int).toNat IntKind.u64.bits))))+((IntKind.u64.wrap ((bits .and .u64 (IntKind.u64.wrap ((IntKind.u64.wrap ((x.fdiv (2 ^ min (32:Int).toNat IntKind.u64.bits))*(bits .and .u64 y 4294967295)))+((IntKind.u64.wrap ((bits .and .u64 x 4294967295)*(bits .and .u64 y 4294967295))).fdiv (2 ^ min (32:Int).toNat IntKind.u64.bits)))) 4294967295)+(IntKind.u64.wrap ((bits .and .u64 x 4294967295)*(y.fdiv (2 ^ min (32:Int).toNat IntKind.u64.bits)))))).fdiv (2 ^ min (32:Int).toNat IntKind.u64.bits)))),(IntKind.u64.wrap (x*y)))
def Dx (a_:Int)(b:Int):Option Int :=
 (ES (IntKind.u64.wrap (if (À (0-a_)) > a_ then (À (0-a_)) else a_)) (IntKind.u64.wrap (if (À (0-b)) > b then (À (0-b)) else b))).bind fun m_ =>
 ((bif (m_.1 == 0) then
  some (decide (m_.2<999999999999999))
 else
  some false
 ):Option Bool).bind fun v27 =>
  ((bif v27 then
   some (À m_.2)
  else
   some 999999999999999
  ):Option Int).bind fun n_ =>
   bif (!((decide (a_<0)) == (decide (b<0)))) then
    some (À (0-n_))
   else
    some n_
def FB (m_:Ah)(x:(List Int)):Option Int :=
 (gi x 0).bind fun x1 =>
 (gi x 1).bind fun x2 =>
 (Dx x1 x2).bind fun t =>
 some t
def CP (n_:Int):Option Int :=
 some (if (if 999999999999999<n_ then 999999999999999 else n_) > (-999999999999999) then (if 999999999999999<n_ then 999999999999999 else n_) else (-999999999999999))
def FA (m_:Ah)(x:(List Int)):Option Int :=
 (gi x 0).bind fun x1 =>
 (gi x 1).bind fun x2 =>
 (CP (À (x1+x2))).bind fun n_ =>
 some n_
def FD (n_:Int):Option Int :=
 some (if (if 41667<n_ then 41667 else n_) > 0 then (if 41667<n_ then 41667 else n_) else 0)
def Dy (d:Int)(n_:Int):Option Int :=
 bif (d == 41667) then
  some d
 else
  (FD (À (d+n_))).bind fun d1 =>
  some d1
def F9 (m_:Ah)(x:(List Int)):Option Int :=
 (gi x 0).bind fun x1 =>
 (gi x 1).bind fun x2 =>
 (Dy x1 x2).bind fun m_1 =>
 some m_1
def F8 (m_:Ah)(x:(List Int)):Option Int :=
 (gi x 0).bind fun x1 =>
 (gi x 1).bind fun x2 =>
 (CP (À (x1-x2))).bind fun n_ =>
 some n_
def F7 (m_:Ah)(x:(List Int)):Option Int :=
 (gi x 0).bind fun x1 =>
 (gi x 1).bind fun x2 =>
 (Dy x1 (À (0-x2))).bind fun m_1 =>
 some m_1
def F6 (m_:Ah)(x:(List Int)):Option Int :=
 (gi x 0).bind fun x1 =>
 (gi x 1).bind fun x2 =>
 some (À (x1-x2))
def F5 (m_:Ah)(x:(List Int)):Option Int :=
 (gi x 0).bind fun x1 =>
 some (À (1-x1))
def F4 (m_:Ah)(x:(List Int)):Option Int :=
 (gi x 0).bind fun x1 =>
 (gi x 1).bind fun x2 =>
 some (bits .and .i64 x1 x2)
def Fp (m_:Ah)(x:(List Int)):Option Int :=
 (gi x 0).bind fun x1 =>
 (gi x 1).bind fun x2 =>
 some (bits .or .i64 x1 x2)
def Fo (m_:Ah)(x:(List Int)):Option Int :=
 (gi x 0).bind fun x1 =>
 (FD x1).bind fun d =>
 some d
def Fm (m_:Ah)(x:(List Int)):Option Int :=
 (gi x 0).bind fun x1 =>
 some (if (if 1000<x1 then 1000 else x1) > 0 then (if 1000<x1 then 1000 else x1) else 0)
def Fe (m_:Ah)(x:(List Int)):Option Int :=
 (gi x 0).bind fun x1 =>
 (gi x (À (2-x1))).bind fun x2 =>
 some x2
def Fc (m_:Ah)(x:(List Int)):Option Int :=
 (gi x 0).bind fun x1 =>
 (gi x 1).bind fun x2 =>
 some (if x2<x1 then x2 else x1)
def Fb (m_:Ah)(x:(List Int)):Option Int :=
 (gi x 0).bind fun x1 =>
 (gi x 1).bind fun x2 =>
 some (if x2 > x1 then x2 else x1)
def Fk (a_:Int)(b:Int):Option Bool :=
 some (decide (a_<b))
def Fj (a_:Int)(b:Int):Option Bool :=
 some (decide (a_<=b))
def Fi (a_:Int)(b:Int):Option Bool :=
 some (decide (b<a_))
def Fh (a_:Int)(b:Int):Option Bool :=
 some (decide (b<=a_))
def Fg (a_:Int)(b:Int):Option Bool :=
 some (a_ == b)
def Ff (a_:Int)(b:Int):Option Bool :=
 some (a_ != b)
def Br:Nat->Ah->Int->Int->Int->Int->Option Int
 |0,_,_,_,_,_=>none
 |n+1,m_,kind,who,best1,v14 =>
  bif (decide (v14<(m_.d.Facts.length:Int))) then
   (gi m_.d.Facts v14).bind fun x1 =>
   ((bif (x1.Kind == kind) then
    bif (x1.Who == who) then
     bif (decide (x1.Known<=m_.known)) then
      bif (decide (best1<0)) then
       some true
      else
       (gi m_.d.Facts best1).bind fun x2 =>
       some (decide (x2.Known<=x1.Known))
     else
      some false
    else
     some false
   else
    some false
   ):Option Bool).bind fun v51 =>
    bif v51 then
     Br n m_ kind who v14 (À (v14+1))
    else
     Br n m_ kind who best1 (À (v14+1))
  else
   some best1
theorem DR (n:Nat)(m_:Ah)(kind:Int)(who:Int)(best1:Int)(v14:Int):Br (n+1) m_ kind who best1 v14 =
 bif (decide (v14<(m_.d.Facts.length:Int))) then
  (gi m_.d.Facts v14).bind fun x1 =>
  ((bif (x1.Kind == kind) then
   bif (x1.Who == who) then
    bif (decide (x1.Known<=m_.known)) then
     bif (decide (best1<0)) then
      some true
     else
      (gi m_.d.Facts best1).bind fun x2 =>
      some (decide (x2.Known<=x1.Known))
    else
     some false
   else
    some false
  else
   some false
  ):Option Bool).bind fun v51 =>
   bif v51 then
    Br n m_ kind who v14 (À (v14+1))
   else
    Br n m_ kind who best1 (À (v14+1))
 else
  some best1:=by rw [Br]
def C5 (n:Nat)(m_:Ah)(kind:Int)(who:Int):Option Int :=
 ((Br n m_ kind who (-1) 0
 ):Option Int).bind fun best =>
  bif (decide (best<0)) then
   some 41667
  else
   (gi m_.d.Facts best).bind fun x =>
   some x.Day
def Dq (b:Bool):Option Int :=
 bif b then
  some 1
 else
  some 0
def Fl (n:Nat)(k:Int)(m_:Ah)(x:(List Int)):Option Int :=
 (gi x 0).bind fun x1 =>
 (C5 n m_ (À (k+1)) x1).bind fun f =>
 some f
def DQ (m_:Ah)(x:(List Int)):Option Int :=
 (gi x 0).bind fun x1 =>
 (gi x 1).bind fun x2 =>
 (Fk x1 x2).bind fun o_ =>
 (Dq o_).bind fun f =>
 some f
def DP (m_:Ah)(x:(List Int)):Option Int :=
 (gi x 0).bind fun x1 =>
 (gi x 1).bind fun x2 =>
 (Fj x1 x2).bind fun o_ =>
 (Dq o_).bind fun f =>
 some f
def DO (m_:Ah)(x:(List Int)):Option Int :=
 (gi x 0).bind fun x1 =>
 (gi x 1).bind fun x2 =>
 (Fi x1 x2).bind fun o_ =>
 (Dq o_).bind fun f =>
 some f
def DN (m_:Ah)(x:(List Int)):Option Int :=
 (gi x 0).bind fun x1 =>
 (gi x 1).bind fun x2 =>
 (Fh x1 x2).bind fun o_ =>
 (Dq o_).bind fun f =>
 some f
def DM (m_:Ah)(x:(List Int)):Option Int :=
 (gi x 0).bind fun x1 =>
 (gi x 1).bind fun x2 =>
 (Fg x1 x2).bind fun o_ =>
 (Dq o_).bind fun f =>
 some f
def DL (m_:Ah)(x:(List Int)):Option Int :=
 (gi x 0).bind fun x1 =>
 (gi x 1).bind fun x2 =>
 (Ff x1 x2).bind fun o_ =>
 (Dq o_).bind fun f =>
 some f
def Ew (op:Int):Option Int :=
 ((bif (op == 1) then
  some (op == 1)
 else
  bif (op == 2) then
   some (op == 2)
  else
   some (op == 3)
 ):Option Bool).bind fun v4 =>
  bif v4 then
   some 0
  else
   ((bif (op == 5) then
    some (op == 5)
   else
    some (op == 6)
   ):Option Bool).bind fun v8 =>
    bif v8 then
     some 1
    else
     bif (op == 20) then
      some 3
     else
      bif (op == 4) then
       some (-1)
      else
       some 2
def AY (s:(List Aa))(s1:(List (ByteArray×Int)))(e:Int)(e1:Int)(e2:Ä)(e3:(List Ag))(e4:Int)(o_:Int)(o_1:Ä)(o_2:(List Int))(o_3:Int)(o_4:Do)(p:Int)(p1:Int)(x:Int):Option (Int×Aa×An) :=
 some (0,(Aa.mk 0 ⟨#[]⟩ [] 0 Do.nil),(An.mk e4 x))
def BJ:Nat->(List Int)->(List Int)->Int->Option (Unit ⊕ Bool)
 |0,_,_,_=>none
 |n+1,s1,s2,v13 =>
  bif (decide (v13<(s1.length:Int))) then
   (gi s1 v13).bind fun x =>
   (gi s2 v13).bind fun x1 =>
   bif (x != x1) then
    some (.inr false)
   else
    BJ n s1 s2 (À (v13+1))
  else
   some (.inl ())
theorem Gw (n:Nat)(s1:(List Int))(s2:(List Int))(v13:Int):BJ (n+1) s1 s2 v13 =
 bif (decide (v13<(s1.length:Int))) then
  (gi s1 v13).bind fun x =>
  (gi s2 v13).bind fun x1 =>
  bif (x != x1) then
   some (.inr false)
  else
   BJ n s1 s2 (À (v13+1))
 else
  some (.inl ()):=by rw [BJ]
def Di (n:Nat)(s1:(List Int))(s2:(List Int)):Option Bool :=
 bif ((s1.length:Int) != (s2.length:Int)) then
  some false
 else
  ((BJ n s1 s2 0
  ):Option (Unit ⊕ Bool)).bind fun y=>match y with
  |.inl _ =>
   some true
  |.inr o=>some o
mutual
def AO:Nat->AZ->Ag->(List Int)->Bool->Bool->Int->Option ((Bool×Bool) ⊕ (Int×Aa×An))
 |0,_,_,_,_,_,_=>none
 |n+1,s,e,types,known1,fits1,v121 =>
  bif (decide (v121<(s.ops.length:Int))) then
   (gi s.ops v121).bind fun x =>
   ((bif (x.op != e.Op) then
    some true
   else
    bif (x.op == 4) then
     some (!decide (x.name=e.S))
    else
     some false
   ):Option Bool).bind fun v141 =>
    bif v141 then
     AO n s e types known1 fits1 (À (v121+1))
    else
     ((bif fits1 then
      some true
     else
      some ((x.args.length:Int) == (types.length:Int))
     ):Option Bool).bind fun fits2 =>
      (Di n x.args types).bind fun e9 =>
      bif e9 then
       some (.inr (x.kind,x,(An.mk 0 0)))
      else
       AO n s e types true fits2 (À (v121+1))
  else
   some (.inl (known1,fits1))
def Bn:Nat->Ag->AZ->(List Int)->Int->Option ((List Int) ⊕ (Int×Aa×An))
 |0,_,_,_,_=>none
 |n+1,e,s,types1,v52 =>
  bif (decide (v52<(e.Kids.length:Int))) then
   (gi e.Kids v52).bind fun x1 =>
   (A5 n s x1).bind fun f7 =>
   bif (f7.2.2.E != 0) then
    some (.inr (0,(Aa.mk 0 ⟨#[]⟩ [] 0 Do.nil),f7.2.2))
   else
    (some [f7.1]).bind fun l =>
    (Cs 9 types1 l).bind fun l1 =>
    Bn n e s l1 (À (v52+1))
  else
   some (.inl types1)
def A5:Nat->AZ->Ag->Option (Int×Aa×An)
 |0,_,_=>none
 |n+1,s,e =>
  (Ew e.Op).bind fun n_ =>
  ((bif (decide (e.Op<1)) then
   some true
  else
   bif (decide (20<e.Op)) then
    some true
   else
    bif (decide (0<=n_)) then
     some ((e.Kids.length:Int) != n_)
    else
     some false
  ):Option Bool).bind fun v43 =>
   bif v43 then
    (AY s.ops s.names e.Op e.N e.S e.Kids e.At 0 ⟨#[]⟩ [] 0 Do.nil 0 0 1).bind fun f =>
    some (f.1,f.2.1,f.2.2)
   else
    ((Bn n e s [] 0
    ):Option ((List Int) ⊕ (Int×Aa×An))).bind fun y1=>match y1 with
    |.inl types =>
     bif (e.Op == 1) then
      ((bif (decide (e.N<0)) then
       some true
      else
       some (decide (999999999999999<e.N))
      ):Option Bool).bind fun v84 =>
       bif v84 then
        (AY s.ops s.names e.Op e.N e.S e.Kids e.At 0 ⟨#[]⟩ [] 0 Do.nil 0 0 1).bind fun f1 =>
        some (f1.1,f1.2.1,f1.2.2)
       else
        some (1,(Aa.mk 0 ⟨#[]⟩ [] 0 Do.nil),(An.mk 0 0))
     else
      bif (e.Op == 2) then
       (AY s.ops s.names e.Op e.N e.S e.Kids e.At 0 ⟨#[]⟩ [] 0 Do.nil 0 0 7).bind fun f2 =>
       some (f2.1,f2.2.1,f2.2.2)
      else
       bif (e.Op == 3) then
        bif (Dv s.names e.S).2 then
         some ((Dv s.names e.S).1,(Aa.mk 0 ⟨#[]⟩ [] 0 Do.nil),(An.mk 0 0))
        else
         (AY s.ops s.names e.Op e.N e.S e.Kids e.At 0 ⟨#[]⟩ [] 0 Do.nil 0 0 6).bind fun f3 =>
         some (f3.1,f3.2.1,f3.2.2)
       else
        ((AO n s e types false false 0
        ):Option ((Bool×Bool) ⊕ (Int×Aa×An))).bind fun y3=>match y3 with
        |.inl (known,fits) =>
         ((bif (e.Op == 4) then
          some (!known)
         else
          some false
         ):Option Bool).bind fun v160 =>
          bif v160 then
           (AY s.ops s.names e.Op e.N e.S e.Kids e.At 0 ⟨#[]⟩ [] 0 Do.nil 0 0 6).bind fun f4 =>
           some (f4.1,f4.2.1,f4.2.2)
          else
           ((bif (e.Op == 4) then
            some (!fits)
           else
            some false
           ):Option Bool).bind fun v173 =>
            bif v173 then
             (AY s.ops s.names e.Op e.N e.S e.Kids e.At 0 ⟨#[]⟩ [] 0 Do.nil 0 0 1).bind fun f5 =>
             some (f5.1,f5.2.1,f5.2.2)
            else
             (AY s.ops s.names e.Op e.N e.S e.Kids e.At 0 ⟨#[]⟩ [] 0 Do.nil 0 0 7).bind fun f6 =>
             some (f6.1,f6.2.1,f6.2.2)
        |.inr o=>some o
    |.inr o=>some o
end
theorem Dn (n:Nat)(s:AZ)(e:Ag)(types:(List Int))(known1:Bool)(fits1:Bool)(v121:Int):AO (n+1) s e types known1 fits1 v121 =
 bif (decide (v121<(s.ops.length:Int))) then
  (gi s.ops v121).bind fun x =>
  ((bif (x.op != e.Op) then
   some true
  else
   bif (x.op == 4) then
    some (!decide (x.name=e.S))
   else
    some false
  ):Option Bool).bind fun v141 =>
   bif v141 then
    AO n s e types known1 fits1 (À (v121+1))
   else
    ((bif fits1 then
     some true
    else
     some ((x.args.length:Int) == (types.length:Int))
    ):Option Bool).bind fun fits2 =>
     (Di n x.args types).bind fun e9 =>
     bif e9 then
      some (.inr (x.kind,x,(An.mk 0 0)))
     else
      AO n s e types true fits2 (À (v121+1))
 else
  some (.inl (known1,fits1)):=by rw [AO]
theorem Fx (n:Nat)(e:Ag)(s:AZ)(types1:(List Int))(v52:Int):Bn (n+1) e s types1 v52 =
 bif (decide (v52<(e.Kids.length:Int))) then
  (gi e.Kids v52).bind fun x1 =>
  (A5 n s x1).bind fun f7 =>
  bif (f7.2.2.E != 0) then
   some (.inr (0,(Aa.mk 0 ⟨#[]⟩ [] 0 Do.nil),f7.2.2))
  else
   (some [f7.1]).bind fun l =>
   (Cs 9 types1 l).bind fun l1 =>
   Bn n e s l1 (À (v52+1))
 else
  some (.inl types1):=by rw [Bn]
def Gt (n:Nat)(d:Do)(m:Ah)(x:List Int):Option Int:=match d with
 |.c 82=>FC m x
 |.c 83=>FB m x
 |.c 85=>FA m x
 |.c 87=>F9 m x
 |.c 89=>F8 m x
 |.c 90=>F7 m x
 |.c 91=>F6 m x
 |.c 92=>F5 m x
 |.c 93=>F4 m x
 |.c 94=>Fp m x
 |.c 95=>Fo m x
 |.c 97=>Fm m x
 |.c 108=>Fe m x
 |.c 109=>Fc m x
 |.c 110=>Fb m x
 |.k k=>Fl n k m x
 |.is 100=>DQ m x
 |.is 101=>DP m x
 |.is 102=>DO m x
 |.is 103=>DN m x
 |.is 104=>DM m x
 |.is 105=>DL m x
 |_=>none
mutual
def AR:Nat->Ag->AZ->Ah->(List Int)->Int->Option (List Int)
 |0,_,_,_,_,_=>none
 |n+1,e,s,m_,x1,v35 =>
  bif (decide (v35<(e.Kids.length:Int))) then
   (gi e.Kids v35).bind fun x2 =>
   (AB n s x2 m_).bind fun v_ =>
   (some [v_]).bind fun l =>
   (Cs 9 x1 l).bind fun l1 =>
   AR n e s m_ l1 (À (v35+1))
  else
   some x1
def AB:Nat->AZ->Ag->Ah->Option Int
 |0,_,_,_=>none
 |n+1,s,e,m_ =>
  bif (e.Op == 1) then
   some e.N
  else
   bif (e.Op == 3) then
    some ((Dv [(⟨#[121,101,97,114]⟩,365),(⟨#[115,116,111,114,101,100]⟩,m_.d.Stored),(⟨#[110,101,118,101,114]⟩,41667),(⟨#[111,119,110,101,114]⟩,m_.d.Owner)] e.S).1)
   else
    ((AR n e s m_ [] 0
    ):Option (List Int)).bind fun x =>
     (A5 n s (Ag.mk e.Op e.N e.S e.Kids e.At)).bind fun f =>
     (gfn f.2.1.do_).bind fun d =>
     (Gt n d m_ x).bind fun r1 =>
     some r1
end
theorem EP (n:Nat)(e:Ag)(s:AZ)(m_:Ah)(x1:(List Int))(v35:Int):AR (n+1) e s m_ x1 v35 =
 bif (decide (v35<(e.Kids.length:Int))) then
  (gi e.Kids v35).bind fun x2 =>
  (AB n s x2 m_).bind fun v_ =>
  (some [v_]).bind fun l =>
  (Cs 9 x1 l).bind fun l1 =>
  AR n e s m_ l1 (À (v35+1))
 else
  some x1:=by rw [AR]
theorem DK (n:Nat)(s:AZ)(e:Ag)(m_:Ah):AB (n+1) s e m_ =
 bif (e.Op == 1) then
  some e.N
 else
  bif (e.Op == 3) then
   some ((Dv [(⟨#[121,101,97,114]⟩,365),(⟨#[115,116,111,114,101,100]⟩,m_.d.Stored),(⟨#[110,101,118,101,114]⟩,41667),(⟨#[111,119,110,101,114]⟩,m_.d.Owner)] e.S).1)
  else
   ((AR n e s m_ [] 0
   ):Option (List Int)).bind fun x =>
    (A5 n s (Ag.mk e.Op e.N e.S e.Kids e.At)).bind fun f =>
    (gfn f.2.1.do_).bind fun d =>
    (Gt n d m_ x).bind fun r1 =>
    some r1:=by rw [AB]
abbrev hT (l:List Ap):PV:=hP l EY
abbrev oT (l:List Ap):PV:=oP l EY
abbrev hX (l:List Ag):PV:=hP l Bf
abbrev oX (l:List Ag):PV:=oP l Bf
abbrev hF (l:List Az):PV:=hP l Cp
abbrev oF (l:List Az):PV:=oP l Cp
abbrev hA (l:List BD):PV:=hP l FG
abbrev oA (l:List BD):PV:=oP l FG
abbrev hS (l:List Ä):PV:=hP l FF
abbrev oS (l:List Ä):PV:=oP l FF
abbrev hI (l:List Int):PV:=hP l BL
abbrev oI (l:List Int):PV:=oP l BL
abbrev hZ (l:List BA):PV:=hP l Ds
abbrev hO (l:List Aa):PV:=hP l AV
abbrev oO (l:List Aa):PV:=oP l AV
abbrev hE (l:List AM):PV:=hP l Ez
abbrev oE (l:List AM):PV:=oP l Ez
end Go.Sp
namespace Go.Sp
open Go
def Ev {α:Type}(f:Nat->Option α)(a:α):Prop:=∃ N,∀ n,N<=n->f n=some a
namespace Ev
variable {α β:Type} {f:Nat->Option α} {a:α} {b:β}
theorem const {x:Option α}(h:x=some a):Ev (fun _=>x) a:=⟨0,fun _ _=>h⟩
theorem pure:Ev (fun _=>some a) a:=const rfl
theorem of (h:∀ n,f n=some a):Ev f a:=⟨0,fun n _=>h n⟩
theorem bind {g:Nat->α->Option β}(h:Ev f a)(k:Ev (fun n=>g n a) b):Ev (fun n=>(f n).bind (g n)) b:=by
 obtain⟨N,h⟩:=h
 obtain⟨M,k⟩:=k
 exact⟨max N M,fun n hn=>by
  show (f n).bind (g n)=some b
  rw [h n (by omega)];exact k n (by omega)⟩
theorem step {F:Nat->Option α}(e:∀ n,F (n+1)=f n)(h:Ev f a):Ev F a:=by
 obtain⟨N,h⟩:=h
 refine⟨N+1,fun n hn=>?_⟩
 obtain⟨m,rfl⟩:∃ m,n=m+1:=⟨n-1,by omega⟩
 rw [e];exact h m (by omega)
theorem congr {g:Nat->Option α}(h:Ev g a)(e:∀ n,f n=g n):Ev f a:=by
 obtain⟨N,h⟩:=h
 exact⟨N,fun n hn=>(e n).trans (h n hn)⟩
theorem get (h:Ev f a):∃ n,f n=some a:=by
 obtain⟨N,h⟩:=h
 exact⟨N,h N (Þ _)⟩
theorem uniq {a':α}(h:Ev f a)(k:Ev f a'):a=a':=by
 obtain⟨N,h⟩:=h
 obtain⟨M,k⟩:=k
 have:=(h (max N M) (by omega)).symm.trans (k (max N M) (by omega))
 exact Af this
end Ev
theorem CW {x:Int}(h1 : -9223372036854775808<=x)(h2:x<9223372036854775808):À x=x:=by
 unfold À;rw [IntKind.wrap_i64];omega
end Go.Sp
namespace Go.Sp
open Go Go.Vl
set_option linter.unusedVariables false
def Ba:Nat->(List Int)->(List Aa)->Int->Option (List Aa)
 |0,_,_,_=>none
 |n+1,l1,l3,v86 =>
  bif (decide (v86<(l1.length:Int))) then
   (gi l1 v86).bind fun x =>
   (some [3,x,x]).bind fun l4 =>
   (some [(Aa.mk 20 ⟨#[]⟩ l4 x (Do.c 108))]).bind fun l5 =>
   (Cs 65 l3 l5).bind fun l6 =>
   ((bif (x == 1) then
    some true
   else
    some (x == 2)
   ):Option Bool).bind fun v103 =>
    bif v103 then
     (some [x,x]).bind fun l7 =>
     (some [x,x]).bind fun l8 =>
     (some [(Aa.mk 4 ⟨#[109,105,110]⟩ l7 x (Do.c 109)),(Aa.mk 4 ⟨#[109,97,120]⟩ l8 x (Do.c 110))]).bind fun l9 =>
     (Cs 65 l6 l9).bind fun l10 =>
     Ba n l1 l10 (À (v86+1))
    else
     Ba n l1 l6 (À (v86+1))
  else
   some l3
theorem Dp (n:Nat)(l1:(List Int))(l3:(List Aa))(v86:Int):Ba (n+1) l1 l3 v86 =
 bif (decide (v86<(l1.length:Int))) then
  (gi l1 v86).bind fun x =>
  (some [3,x,x]).bind fun l4 =>
  (some [(Aa.mk 20 ⟨#[]⟩ l4 x (Do.c 108))]).bind fun l5 =>
  (Cs 65 l3 l5).bind fun l6 =>
  ((bif (x == 1) then
   some true
  else
   some (x == 2)
  ):Option Bool).bind fun v103 =>
   bif v103 then
    (some [x,x]).bind fun l7 =>
    (some [x,x]).bind fun l8 =>
    (some [(Aa.mk 4 ⟨#[109,105,110]⟩ l7 x (Do.c 109)),(Aa.mk 4 ⟨#[109,97,120]⟩ l8 x (Do.c 110))]).bind fun l9 =>
    (Cs 65 l6 l9).bind fun l10 =>
    Ba n l1 l10 (À (v86+1))
   else
    Ba n l1 l6 (À (v86+1))
 else
  some l3:=by rw [Ba]
def Yz (n:Nat)(l:(List Aa)):Option (List Aa) :=
 (some [1,2,3,4]).bind fun l1 =>
 ((Ba n l1 l 0
 ):Option (List Aa)).bind fun l2 =>
  some l2
def Bo:Nat->(List Int)->Int->Nat->(List Aa)->Int->Option ((List Aa)×Int×Bool)
 |0,_,_,_,_,_=>none
 |n+1,l1,op,f,l3,v601 =>
  bif (decide (v601<(l1.length:Int))) then
   (gi l1 v601).bind fun x =>
   ((bif (x != 4) then
    some true
   else
    bif (op == 12) then
     some true
    else
     some (op == 13)
   ):Option Bool).bind fun v73 =>
    bif v73 then
     (some [x,x]).bind fun l4 =>
     (some [(Aa.mk op ⟨#[]⟩ l4 3 (Do.is f))]).bind fun l5 =>
     (Cs 65 l3 l5).bind fun l6 =>
     Bo n l1 op f l6 (À (v601+1))
    else
     Bo n l1 op f l3 (À (v601+1))
  else
   some (l3,v601,(decide (v601<(l1.length:Int))))
theorem B1 (n:Nat)(l1:(List Int))(op:Int)(f:Nat)(l3:(List Aa))(v601:Int):Bo (n+1) l1 op f l3 v601 =
 bif (decide (v601<(l1.length:Int))) then
  (gi l1 v601).bind fun x =>
  ((bif (x != 4) then
   some true
  else
   bif (op == 12) then
    some true
   else
    some (op == 13)
  ):Option Bool).bind fun v73 =>
   bif v73 then
    (some [x,x]).bind fun l4 =>
    (some [(Aa.mk op ⟨#[]⟩ l4 3 (Do.is f))]).bind fun l5 =>
    (Cs 65 l3 l5).bind fun l6 =>
    Bo n l1 op f l6 (À (v601+1))
   else
    Bo n l1 op f l3 (À (v601+1))
 else
  some (l3,v601,(decide (v601<(l1.length:Int)))):=by rw [Bo]
def Aan (n:Nat)(l:(List Aa))(op:Int)(f:Nat):Option (List Aa) :=
 (some [1,2,4]).bind fun l1 =>
 ((Bo n l1 op f l 0
 ):Option ((List Aa)×Int×Bool)).bind fun y=>match y with
 |(l2,v60,v61) =>
  some l2
def BQ:Nat->(List Ä)->(List Aa)->Int->Option ((List Aa)×Int×Bool)
 |0,_,_,_=>none
 |n+1,l13,l15,v371 =>
  bif (decide (v371<(l13.length:Int))) then
   (gi l13 v371).bind fun x =>
   (some [4]).bind fun l16 =>
   (some [(Aa.mk 4 x l16 2 (Do.k v371))]).bind fun l17 =>
   (Cs 65 l15 l17).bind fun l18 =>
   BQ n l13 l18 (À (v371+1))
  else
   some (l15,v371,(decide (v371<(l13.length:Int))))
theorem Iz (n:Nat)(l13:(List Ä))(l15:(List Aa))(v371:Int):BQ (n+1) l13 l15 v371 =
 bif (decide (v371<(l13.length:Int))) then
  (gi l13 v371).bind fun x =>
  (some [4]).bind fun l16 =>
  (some [(Aa.mk 4 x l16 2 (Do.k v371))]).bind fun l17 =>
  (Cs 65 l15 l17).bind fun l18 =>
  BQ n l13 l18 (À (v371+1))
 else
  some (l15,v371,(decide (v371<(l13.length:Int)))):=by rw [BQ]
def Acg (n:Nat):Option (List Aa) :=
 (some [1]).bind fun l =>
 (some [1,1]).bind fun l1 =>
 (some [1,1]).bind fun l2 =>
 (some [2,1]).bind fun l3 =>
 (some [1,1]).bind fun l4 =>
 (some [2,1]).bind fun l5 =>
 (some [2,2]).bind fun l6 =>
 (some [3]).bind fun l7 =>
 (some [3,3]).bind fun l8 =>
 (some [3,3]).bind fun l9 =>
 (some [1]).bind fun l10 =>
 (some [1]).bind fun l11 =>
 (some [(Aa.mk 6 ⟨#[]⟩ l 1 (Do.c 82)),(Aa.mk 7 ⟨#[]⟩ l1 1 (Do.c 83)),(Aa.mk 10 ⟨#[]⟩ l2 1 (Do.c 85)),(Aa.mk 10 ⟨#[]⟩ l3 2 (Do.c 87)),(Aa.mk 11 ⟨#[]⟩ l4 1 (Do.c 89)),(Aa.mk 11 ⟨#[]⟩ l5 2 (Do.c 90)),(Aa.mk 11 ⟨#[]⟩ l6 1 (Do.c 91)),(Aa.mk 5 ⟨#[]⟩ l7 3 (Do.c 92)),(Aa.mk 18 ⟨#[]⟩ l8 3 (Do.c 93)),(Aa.mk 19 ⟨#[]⟩ l9 3 (Do.c 94)),(Aa.mk 4 ⟨#[100,97,121]⟩ l10 2 (Do.c 95)),(Aa.mk 4 ⟨#[112,101,114,115,111,110]⟩ l11 4 (Do.c 97))]).bind fun l12 =>
 (some [⟨#[98,111,114,110]⟩,⟨#[100,105,101,100]⟩,⟨#[97,115,107,101,100]⟩,⟨#[104,101,108,100]⟩,⟨#[108,105,102,116,101,100]⟩]).bind fun l13 =>
 ((BQ n l13 l12 0
 ):Option ((List Aa)×Int×Bool)).bind fun y=>match y with
 |(l14,v37,v38) =>
  some l14
def CK:List (Value×Value):=[(.int .i64 14,.func (.func 100) #[] #[]),(.int .i64 15,.func (.func 101) #[] #[]),(.int .i64 16,.func (.func 102) #[] #[]),(.int .i64 17,.func (.func 103) #[] #[]),(.int .i64 12,.func (.func 104) #[] #[]),(.int .i64 13,.func (.func 105) #[] #[])]
def opk:List (Int×Nat):=[(14,100),(15,101),(16,102),(17,103),(12,104),(13,105)]
end Go.Sp
namespace Go.Sp
open Go Go.Vl
def FM:List Aa :=
 [⟨6,⟨#[]⟩,[1],1,.c 82⟩,⟨7,⟨#[]⟩,[1,1],1,.c 83⟩,⟨10,⟨#[]⟩,[1,1],1,.c 85⟩,⟨10,⟨#[]⟩,[2,1],2,.c 87⟩,⟨11,⟨#[]⟩,[1,1],1,.c 89⟩,⟨11,⟨#[]⟩,[2,1],2,.c 90⟩,
  ⟨11,⟨#[]⟩,[2,2],1,.c 91⟩,⟨5,⟨#[]⟩,[3],3,.c 92⟩,⟨18,⟨#[]⟩,[3,3],3,.c 93⟩,⟨19,⟨#[]⟩,[3,3],3,.c 94⟩,⟨4,⟨#[100,97,121]⟩,[1],2,.c 95⟩,⟨4,⟨#[112,101,114,115,111,110]⟩,[1],4,.c 97⟩,
  ⟨4,⟨#[98,111,114,110]⟩,[4],2,.k 0⟩,⟨4,⟨#[100,105,101,100]⟩,[4],2,.k 1⟩,⟨4,⟨#[97,115,107,101,100]⟩,[4],2,.k 2⟩,⟨4,⟨#[104,101,108,100]⟩,[4],2,.k 3⟩,⟨4,⟨#[108,105,102,116,101,100]⟩,[4],2,.k 4⟩]
def Jp (op:Int)(f:Nat):List Aa :=
 [⟨op,⟨#[]⟩,[1,1],3,.is f⟩,⟨op,⟨#[]⟩,[2,2],3,.is f⟩]++if op=12∨op=13 then [⟨op,⟨#[]⟩,[4,4],3,.is f⟩] else []
def He (i:Nat):List Aa:=match opk[i]? with
 |some (op,f)=>Jp op f
 |none=>[]
def Oq:List Aa :=
 [⟨20,⟨#[]⟩,[3,1,1],1,.c 108⟩,⟨4,⟨#[109,105,110]⟩,[1,1],1,.c 109⟩,⟨4,⟨#[109,97,120]⟩,[1,1],1,.c 110⟩,⟨20,⟨#[]⟩,[3,2,2],2,.c 108⟩,⟨4,⟨#[109,105,110]⟩,[2,2],2,.c 109⟩,⟨4,⟨#[109,97,120]⟩,[2,2],2,.c 110⟩,
  ⟨20,⟨#[]⟩,[3,3,3],3,.c 108⟩,⟨20,⟨#[]⟩,[3,4,4],4,.c 108⟩]
def Ord (os:List Nat):Prop:=os.Nodup/\(∀ i∈os,i<6)/\∀ i,i<6->i∈os
theorem Aao:Acg 20=some FM:=by kernel_rfl
theorem YP {l ys:List Aa}(h1:l.length<=100)(h2:ys.length<=100):Cs 65 l ys=some (l++ys):=by
 unfold Cs
 rw [Ç (by omega)]
theorem Aam (l:List Aa)(op:Int)(f:Nat)(hl:l.length<=40):Aan 20 l op f=some (l++Jp op f):=by
 unfold Aan
 rw [Á]
 rw [B1]
 rw [show (decide ((0:Int)<(([1,2,4]:List Int).length:Int)))=true from rfl,Ï,show gi ([1,2,4]:List Int) 0=some 1 from rfl,Á]
 rw [show ((1:Int) != 4)=true from rfl,Ï,Á,Ï,Á,Á,YP (by omega) (by simp),Á]
 rw [B1]
 rw [show (decide (À (0+1)<(([1,2,4]:List Int).length:Int)))=true from rfl,Ï,show gi ([1,2,4]:List Int) (À (0+1))=some 2 from rfl,Á]
 rw [show ((2:Int) != 4)=true from rfl,Ï,Á,Ï,Á,Á,YP (by simp;omega) (by simp),Á]
 rw [B1]
 rw [show (decide (À (À (0+1)+1)<(([1,2,4]:List Int).length:Int)))=true from rfl,Ï,show gi ([1,2,4]:List Int) (À (À (0+1)+1))=some 4 from rfl,Á]
 rw [show ((4:Int) != 4)=false from rfl,Ð]
 by_cases h:op=12∨op=13
 . have e:((bif (op == 12) then some true else some (op == 13)):Option Bool)=some true:=by
    rcases h with h|h<;>subst h<;>rfl
   rw [e,Á,Ï,Á,Á,YP (by simp;omega) (by simp),Á,B1]
   rw [show (decide (À (À (À (0+1)+1)+1)<(([1,2,4]:List Int).length:Int)))=false from rfl,Ð,Á]
   unfold Jp
   rw [Ç h]
   simp only [ñ]
   rfl
 . have e:((bif (op == 12) then some true else some (op == 13)):Option Bool)=some false:=by
    have h1:(op == 12)=false:=by simpa using fun e=>h (.inl e)
    have h2:(op == 13)=false:=by simpa using fun e=>h (.inr e)
    rw [h1,h2];rfl
   rw [e,Á,Ð,B1]
   rw [show (decide (À (À (À (0+1)+1)+1)<(([1,2,4]:List Int).length:Int)))=false from rfl,Ð,Á]
   unfold Jp
   rw [Å h]
   simp only [ñ]
   rfl
theorem W8 (l:List Aa)(hl:l.length<=40):Yz 20 l=some (l++Oq):=by
 unfold Yz
 rw [Á]
 have step:∀ (n:Nat) (v x:Int) (m:List Aa),m.length<=60->(decide (v<(([1,2,3,4]:List Int).length:Int)))=true->gi [1,2,3,4] v=some x ->
  Ba (n+1) [1,2,3,4] m v=Ba n [1,2,3,4] (m++(⟨20,⟨#[]⟩,[3,x,x],x,.c 108⟩::if x=1∨x=2 then [⟨4,⟨#[109,105,110]⟩,[x,x],x,.c 109⟩,⟨4,⟨#[109,97,120]⟩,[x,x],x,.c 110⟩] else [])) (À (v+1)):=by
  intro n v x m hm h1 h2
  rw [Dp,h1,Ï,h2,Á,Á,Á,YP (by omega) (by simp),Á]
  by_cases h:x=1∨x=2
  . have e:((bif (x == 1) then some true else some (x == 2)):Option Bool)=some true:=by
     rcases h with h|h<;>subst h<;>rfl
    rw [e,Á,Ï,Á,Á,Á,YP (by simp;omega) (by simp),Á,Ç h,ñ]
    rfl
  . have e:((bif (x == 1) then some true else some (x == 2)):Option Bool)=some false:=by
     have h1:(x == 1)=false:=by simpa using fun e=>h (.inl e)
     have h2:(x == 2)=false:=by simpa using fun e=>h (.inr e)
     rw [h1,h2];rfl
    rw [e,Á,Ð,Å h]
 rw [step 19 0 1 l (by omega) rfl rfl,step 18 _ 2 _ (by simp;omega) rfl rfl,step 17 _ 3 _ (by simp;omega) rfl rfl,step 16 _ 4 _ (by simp;omega) rfl rfl,Dp,
  show (decide (À (À (À (À (0+1)+1)+1)+1)<(([1,2,3,4]:List Int).length:Int)))=false from rfl,Ð,Á]
 simp only [ñ]
 rfl
theorem Aal (l:List Aa)(hl:l.length<=40):∃ r,Yz 20 l=some r:=⟨_,W8 l hl⟩
theorem ndl:∀ (n:Nat) (l:List Nat),l.Nodup->(∀ i∈l,i<n)->l.length<=n
 |0,l,_,h=>by
  cases l with
  |nil=>simp
  |cons a r=>exact absurd (h a (by simp)) (by omega)
 |n+1,l,hn,h=>by
  have h1:=ndl n (l.erase n) (hn.erase n) (fun i hi=>by
   have h2:=h i (List.mem_of_mem_erase hi)
   have h3:i≠n:=fun e=>by
    subst e
    exact (List.Nodup.not_mem_erase hn) hi
   omega)
  rw [List.length_erase] at h1
  split at h1<;>omega
theorem XN (i:Nat):(He i).length<=3:=by
 unfold He
 split
 . unfold Jp;split<;>simp
 . simp
theorem Qs:∀ (s:List Nat),(s.flatMap He).length<=3*s.length
 | []=>by simp
 |a::r=>by
  have h1:=Qs r
  have h2:=XN a
  rw [List.flatMap_cons,Õ,Ý]
  omega
section
variable {seen:List Nat} {i:Nat} {l l' r:List Aa} {op:Int} {f:Nat}
theorem V0 (hlen:seen.length<=6)(hl:l=FM++seen.flatMap He):l.length<=40:=by
 have:=Qs seen
 rw [hl,Õ]
 have e:FM.length=17:=rfl
 omega
theorem Ae5 (i:Nat)(h:i<CK.length):∃ op f,CK[i]?=some (.int .i64 op,.func (.func f) #[] #[])/\opk[i]?=some (op,f):=by
 have h6:i<6:=h
 match i,h6 with
 |0,_=>exact⟨14,100,rfl,rfl⟩
 |1,_=>exact⟨15,101,rfl,rfl⟩
 |2,_=>exact⟨16,102,rfl,rfl⟩
 |3,_=>exact⟨17,103,rfl,rfl⟩
 |4,_=>exact⟨12,104,rfl,rfl⟩
 |5,_=>exact⟨13,105,rfl,rfl⟩
theorem Ace (hnd:seen.Nodup)(hlt:∀ i∈seen,i<6)(hall:∀ i,i<CK.length->i∈seen):Ord seen:=⟨hnd,hlt,fun i hi=>hall i hi⟩
theorem nd1 (hnd:seen.Nodup)(hn:i∉seen):(seen++[i]).Nodup:=by
 rw [Đ]
 refine⟨hnd,by simp,fun a ha b hb=>?_⟩
 rw [List.mem_singleton.1 hb]
 rintro rfl;exact hn ha
theorem lt1 (hlt:∀ i∈seen,i<6)(hi:i<CK.length):∀ j∈seen++[i],j<6:=fun j hj=>by
 rcases List.mem_append.1 hj with h|h
 . exact hlt j h
 . rw [List.mem_singleton.1 h];exact hi
theorem Ae0 (hnd:seen.Nodup)(hlt:∀ i∈seen,i<6)(hn:i∉seen)(hi:i<CK.length):6-(seen++[i]).length<6-seen.length:=by
 have:=ndl 6 _ (nd1 hnd hn) (lt1 hlt hi)
 rw [Õ,List.length_singleton] at this ⊢
 omega
theorem Ae1 (hnd:seen.Nodup)(hlt:∀ i∈seen,i<6)(hl:l=FM++seen.flatMap He)(hn:i∉seen)(hi:i<CK.length)(hop:opk[i]?=some (op,f))(hB:r=l++Jp op f)(h:some l'=some r) :
 (seen++[i]).Nodup/\(∀ j∈seen++[i],j<6)/\(seen++[i]).length<=6/\l'=FM++(seen++[i]).flatMap He:=by
 refine⟨nd1 hnd hn,lt1 hlt hi,ndl 6 _ (nd1 hnd hn) (lt1 hlt hi),?_⟩
 rw [Af h,hB,hl,List.flatMap_append,ñ]
 congr 2
 rw [List.flatMap_cons,List.flatMap_nil,đ]
 unfold He
 rw [hop]
end
def opsOf (os:List Nat):List Aa:=FM++os.flatMap He++Oq
end Go.Sp
namespace Go.Sp
open Go Go.Vl
def CI:List (ByteArray×Int):=[(⟨#[121,101,97,114]⟩,1),(⟨#[115,116,111,114,101,100]⟩,2),(⟨#[110,101,118,101,114]⟩,2),(⟨#[111,119,110,101,114]⟩,4)]
instance (os:List Nat):Decidable (Ord os):=by unfold Ord;exact inferInstance
def R3 (os:List Nat):List Nat:=if Ord os then os else [0,1,2,3,4,5]
theorem R2 (os:List Nat):Ord (R3 os):=by
 unfold R3
 split
 . assumption
 . decide
theorem Yy {os:List Nat}(h:Ord os):R3 os=os:=Ç h
abbrev Bk:PV:=.dis fun os=>(opsOf (R3 os)).map AV
abbrev Dh:PV:=.vmp (MY CI)
end Go.Sp
namespace Go.Sp
open Go
def op0:Aa:=⟨0,⟨#[]⟩,[],0,.nil⟩
abbrev UD (p x:Int):Int×Aa×An:=(0,op0,⟨p,x⟩)
def arity (op:Int):Int:=if op=1∨op=2∨op=3 then 0 else if op=5∨op=6 then 1 else if op=20 then 3 else if op=4 then -1 else 2
theorem TM (op:Int):Ew op=some (arity op):=by
 by_cases h1:op=1
 . subst h1;rfl
 by_cases h2:op=2
 . subst h2;rfl
 by_cases h3:op=3
 . subst h3;rfl
 by_cases h5:op=5
 . subst h5;rfl
 by_cases h6:op=6
 . subst h6;rfl
 by_cases h20:op=20
 . subst h20;rfl
 by_cases h4:op=4
 . subst h4;rfl
 unfold Ew arity
 have b1:(op == 1)=false:=by simpa using h1
 have b2:(op == 2)=false:=by simpa using h2
 have b3:(op == 3)=false:=by simpa using h3
 have b4:(op == 4)=false:=by simpa using h4
 have b5:(op == 5)=false:=by simpa using h5
 have b6:(op == 6)=false:=by simpa using h6
 have b20:(op == 20)=false:=by simpa using h20
 simp only [b1,b2,b3,b4,b5,b6,b20,Ð,Á]
 simp [h1,h2,h3,h4,h5,h6,h20]
def hit (op:Int)(s:Ä)(o:Aa):Bool:=o.op == op&&(!(o.op == 4)||decide (o.name=s))
def pick (op:Int)(s:Ä)(ts:List Int)(l:List Aa):Option Aa:=l.find? fun o=>hit op s o&&decide (o.args=ts)
def known (op:Int)(s:Ä)(l:List Aa):Bool:=l.any (hit op s)
def Ng (op:Int)(s:Ä)(ts:List Int)(l:List Aa):Bool:=l.any fun o=>hit op s o&&((o.args.length:Int) == (ts.length:Int))
theorem Nz {k:Nat}(h:k<4611686018427387904):À ((k:Int)+1)=((k+1:Nat):Int):=by
 rw [CW (by omega) (by omega)];omega
theorem Pc {α:Type}{l:List α}{k:Nat}{x:α}{r:List α}(h:l.drop k=x::r):gi l (k:Int)=some x:=by
 have h2:l[k]?=some x:=by
  have:=Ĝ (·[0]?) h
  simpa [List.getElem?_drop] using this
 unfold gi
 rw [Ç (by omega)];exact h2
theorem Ge {α:Type}{l:List α}{k:Nat}{x:α}{r:List α}(h:l.drop k=x::r):l.drop (k+1)=r/\k<l.length:=by
 constructor
 . have:=Ĝ (List.drop 1) h
   rw [Ĥ] at this
   rw [this];rfl
 . by_cases hk:k<l.length
   . exact hk
   . rw [č (by omega)] at h;cases h
theorem J8 {α:Type}{l:List α}{k:Nat}(h:l.drop k=[])(hk:k<=l.length):k=l.length:=by
 have:=Ĝ List.length h
 rw [ù,ë] at this
 omega
theorem Pb {k n:Nat}(h:k<n):(decide ((k:Int)<(n:Int)))=true:=by rw [Î];omega
theorem Zj (a b:List Int)(hab:a.length=b.length)(ha:a.length<=1000000000):∀ (r:List Int) (k:Nat),a.drop k=r->k<=a.length->Ev (fun n=>BJ n a b (k:Int)) (if a.drop k=b.drop k then .inl () else .inr false)
 | [],k,hr,hk=>by
  have he:=J8 hr hk
  refine Ev.step (f:=fun n=>some (.inl ())) (fun n=>?_) ?_
  . rw [Gw,show (decide ((k:Int)<(a.length:Int)))=false by rw [Ù];omega];rfl
  . rw [Ç (by rw [hr,č (by omega)])];exact Ev.pure
 |x::r,k,hr,hk=>by
  obtain⟨h1,h2⟩:=Ge hr
  have hkb:k<b.length:=by omega
  have hb:b.drop k=b[k]::b.drop (k+1):=ě hkb
  have ih:=Zj a b hab ha r (k+1) h1 (by omega)
  refine Ev.step (f:=fun n=>bif (x != b[k]) then some (.inr false) else BJ n a b ((k+1:Nat):Int)) (fun n=>?_) ?_
  . rw [Gw,Pb h2,Ï,Pc hr,Á,Pc hb,Á,Nz (by omega)]
  . by_cases hx:x=b[k]
    . subst hx
      simp only [ö,Ð]
      have e:(a.drop k=b.drop k)↔(a.drop (k+1)=b.drop (k+1)):=by
       rw [hr,hb,h1]
       exact⟨fun h=>(List.cons.inj h).2,fun h=>by rw [h]⟩
      by_cases h3:a.drop (k+1)=b.drop (k+1)
      . rw [Ç (e.2 h3)];rw [Ç h3] at ih;exact ih
      . rw [Å (fun h=>h3 (e.1 h))];rw [Å h3] at ih;exact ih
    . rw [Å (by rw [hr,hb];intro h;exact hx (List.cons.inj h).1)]
      simp only [show (x != b[k])=true by simpa using hx,Ï]
      exact Ev.pure
theorem Zi (a b:List Int)(ha:a.length<=1000000000):Ev (fun n=>Di n a b) (decide (a=b)):=by
 unfold Di
 by_cases h:a.length=b.length
 . rw [show ((a.length:Int) != (b.length:Int))=false by simp [h]]
   simp only [Ð]
   refine Ev.bind (Zj a b h ha _ 0 rfl (ü _)) ?_
   simp only [List.drop_zero]
   by_cases e:a=b
   . rw [Ç e,Ì e];exact Ev.pure
   . rw [Å e,Ë e];exact Ev.pure
 . rw [show ((a.length:Int) != (b.length:Int))=true by simp;omega]
   rw [Ë (fun e=>h (by rw [e]))]
   exact Ev.pure
def CE (op:Int)(s:Ä)(ts:List Int)(l:List Aa)(kn fi:Bool):(Bool×Bool) ⊕ (Int×Aa×An) :=
 match pick op s ts l with
 |some o=>.inr (o.kind,o,⟨0,0⟩)
 |none=>.inl (kn||known op s l,fi||Ng op s ts l)
theorem Ms (l:List Aa)(ns:List (ByteArray×Int))(e:Ag)(ts:List Int)(hl:l.length<=1000000)(ha:∀ o∈l,o.args.length<=1000) :
 ∀ (r:List Aa) (k:Nat) (kn fi:Bool),l.drop k=r->k<=l.length->Ev (fun n=>AO n ⟨l,ns⟩ e ts kn fi (k:Int)) (CE e.Op e.S ts r kn fi)
 | [],k,kn,fi,hr,hk=>by
  have he:=J8 hr hk
  refine Ev.step (f:=fun n=>some (.inl (kn,fi))) (fun n=>?_) ?_
  . rw [Dn,show (decide ((k:Int)<(l.length:Int)))=false by rw [Ù];omega];rfl
  . have:CE e.Op e.S ts [] kn fi=.inl (kn,fi):=by simp [CE,pick,known,Ng]
    rw [this];exact Ev.pure
 |o::r,k,kn,fi,hr,hk=>by
  obtain⟨h1,h2⟩:=Ge hr
  have hmem:o∈l:=æ (by rw [hr];simp)
  have hcond:((bif (o.op != e.Op) then some true else bif (o.op == 4) then some (!decide (o.name=e.S)) else some false):Option Bool)=some (!hit e.Op e.S o):=by
   unfold hit
   by_cases c1:o.op=e.Op
   . rw [show (o.op != e.Op)=false by simp [c1],show (o.op == e.Op)=true by simp [c1],Ð,Bool.true_and]
     cases c2:(o.op == 4) with
     |true=>simp
     |false=>simp
   . rw [show (o.op != e.Op)=true by simp [c1],show (o.op == e.Op)=false by simp [c1],Ï,Bool.false_and];rfl
  cases hh:hit e.Op e.S o with
  |false =>
   have ih:=Ms l ns e ts hl ha r (k+1) kn fi h1 (by omega)
   have es:CE e.Op e.S ts (o::r) kn fi=CE e.Op e.S ts r kn fi:=by simp [CE,pick,known,Ng,hh]
   rw [es]
   refine Ev.step (fun n=>?_) ih
   rw [Dn,Pb h2,Ï,Pc hr,Á,hcond,hh,Á,Bool.not_false,Ï,Nz (by omega)]
  |true =>
   have hfit:((bif fi then some true else some ((o.args.length:Int) == (ts.length:Int))):Option Bool)=some (fi||((o.args.length:Int) == (ts.length:Int))):=by cases fi<;>rfl
   refine Ev.step (f:=fun n=>(Di n o.args ts).bind fun e9=>bif e9 then some (.inr (o.kind,o,⟨0,0⟩)) else AO n ⟨l,ns⟩ e ts true (fi||((o.args.length:Int) == (ts.length:Int))) ((k+1:Nat):Int)) (fun n=>?_) ?_
   . rw [Dn,Pb h2,Ï,Pc hr,Á,hcond,hh,Á,Ĕ,Ð,hfit,Á,Nz (by omega)]
   . refine Ev.bind (Zi o.args ts (by have:=ha o hmem;omega)) ?_
     by_cases e1:o.args=ts
     . have es:CE e.Op e.S ts (o::r) kn fi=.inr (o.kind,o,⟨0,0⟩):=by simp [CE,pick,hh,e1]
       rw [Ì e1,es];exact Ev.pure
     . have ih:=Ms l ns e ts hl ha r (k+1) true (fi||((o.args.length:Int) == (ts.length:Int))) h1 (by omega)
       have es:CE e.Op e.S ts (o::r) kn fi=CE e.Op e.S ts r true (fi||((o.args.length:Int) == (ts.length:Int))):=by
        have hp:pick e.Op e.S ts (o::r)=pick e.Op e.S ts r:=by simp [pick,hh,e1]
        have hk2:known e.Op e.S (o::r)=true:=by simp [known,hh]
        have hf2:Ng e.Op e.S ts (o::r)=(((o.args.length:Int) == (ts.length:Int))||Ng e.Op e.S ts r):=by simp [Ng,hh]
        unfold CE
        rw [hp,hk2,hf2]
        cases pick e.Op e.S ts r with
        |some o'=>rfl
        |none=>simp only [Bool.or_true,Bool.true_or,Bool.or_assoc]
       rw [Ë e1,es]
       exact ih
end Go.Sp
namespace Go.Sp
open Go
def Sy (i:Nat):Int:=((opk[i]?).map (·.1)).getD 0
theorem U8 {i:Nat}{o:Aa}(h:o∈He i):o.op=Sy i:=by
 unfold He at h
 unfold Sy
 split at h
 . rename_i op f e
   rw [e]
   unfold Jp at h
   split at h<;>simp at h
   . rcases h with rfl|rfl|rfl<;>rfl
   . rcases h with rfl|rfl<;>rfl
 . simp at h
theorem Y2:∀ i,i<6->∀ j,j<6->Sy i=Sy j->i=j:=by decide
theorem Oa {l:List Nat}{op:Int}(h:∀ i∈l,Sy i≠op):(l.flatMap He).filter (fun o=>o.op == op)=[]:=by
 rw [List.filter_eq_nil_iff]
 intro o ho
 obtain⟨i,hi,ho2⟩:=List.mem_flatMap.1 ho
 have:=h i hi
 rw [<- U8 ho2] at this
 simpa using this
theorem Ur {os:List Nat}(h:Ord os)(op:Int):(os.flatMap He).filter (fun o=>o.op == op)=match (List.range 6).find? (fun i=>Sy i == op) with|some i=>He i|none=>[]:=by
 cases hf:(List.range 6).find? (fun i=>Sy i == op) with
 |none =>
  rw [List.find?_eq_none] at hf
  refine Oa fun i hi=>?_
  have:=hf i (List.mem_range.2 (h.2.1 i hi))
  simpa using this
 |some i =>
  have h1:=List.find?_some hf
  have h2:=List.mem_range.1 (List.mem_of_find?_eq_some hf)
  have h1:Sy i=op:=by simpa using h1
  obtain⟨l1,l2,rfl⟩:=List.append_of_mem (h.2.2 i h2)
  have hnd:=h.1
  rw [Đ] at hnd
  have hn1:i∉l1:=fun hm=>hnd.2.2 i hm i (by simp) rfl
  have hn2:i∉l2:=(List.nodup_cons.1 hnd.2.1).1
  have other:∀ j∈l1++i::l2,j≠i->Sy j≠op:=fun j hj hne e=>hne (Y2 j (h.2.1 j hj) i h2 (e.trans h1.symm))
  rw [List.flatMap_append,Ė,List.flatMap_cons,Ė]
  rw [Oa (fun j hj=>other j (by simp [hj]) (fun e=>hn1 (e ▸ hj))),Oa (fun j hj=>other j (by simp [hj]) (fun e=>hn2 (e ▸ hj)))]
  rw [Ā,đ]
  refine List.filter_eq_self.2 fun o ho=>?_
  rw [U8 ho,h1];simp
def JW:List Aa:=opsOf [0,1,2,3,4,5]
theorem W7:Ord [0,1,2,3,4,5]:=by decide
theorem VD {os:List Nat}(h:Ord os)(op:Int):(opsOf os).filter (fun o=>o.op == op)=JW.filter (fun o=>o.op == op):=by
 unfold JW opsOf
 rw [Ė,Ė,Ė,Ė,Ur h,Ur W7]
theorem YI {op:Int}{s:Ä}{o:Aa}(h:hit op s o=true):(o.op == op)=true:=by
 unfold hit at h
 rw [Æ] at h
 exact h.1
theorem WG (op:Int)(s:Ä)(o:Aa):((o.op == op)&&hit op s o)=hit op s o:=by
 cases h:hit op s o with
 |false=>simp
 |true=>simp [YI h]
theorem O1 (op:Int)(s:Ä)(ts:List Int)(l:List Aa):pick op s ts (l.filter fun o=>o.op == op)=pick op s ts l:=by
 unfold pick
 rw [List.find?_filter]
 congr 1
 funext o
 cases h:hit op s o with
 |false=>simp
 |true=>simp [YI h]
theorem MZ (op:Int)(s:Ä)(l:List Aa):known op s (l.filter fun o=>o.op == op)=known op s l:=by
 unfold known
 rw [List.any_filter]
 congr 1
 funext o
 exact WG op s o
theorem OG (op:Int)(s:Ä)(ts:List Int)(l:List Aa):Ng op s ts (l.filter fun o=>o.op == op)=Ng op s ts l:=by
 unfold Ng
 rw [List.any_filter]
 congr 1
 funext o
 rw [<- Bool.and_assoc,WG]
theorem Si {os:List Nat}(h:Ord os)(op:Int)(s:Ä)(ts:List Int)(kn fi:Bool):CE op s ts (opsOf os) kn fi=CE op s ts JW kn fi:=by
 unfold CE
 rw [<- O1,<- MZ,<- OG,VD h,O1,MZ,OG]
theorem Xu {os:List Nat}(h:Ord os):(opsOf os).length<=1000000:=by
 unfold opsOf
 have:=Qs os
 have h6:=ndl 6 os h.1 h.2.1
 rw [Õ,Õ]
 have e1:FM.length=17:=rfl
 have e2:Oq.length=8:=rfl
 omega
theorem Vq {os:List Nat}:∀ o∈opsOf os,o.args.length<=1000:=by
 intro o ho
 unfold opsOf at ho
 rcases List.mem_append.1 ho with ho|ho
 . rcases List.mem_append.1 ho with ho|ho
   . have:FM.all (fun o=>decide (o.args.length<=1000))=true:=by decide
     rw [Û] at this
     simpa using this o ho
   . obtain⟨i,_,h2⟩:=List.mem_flatMap.1 ho
     unfold He at h2
     split at h2
     . unfold Jp at h2
       split at h2<;>simp at h2
       . rcases h2 with rfl|rfl|rfl<;>simp
       . rcases h2 with rfl|rfl<;>simp
     . simp at h2
 . have:Oq.all (fun o=>decide (o.args.length<=1000))=true:=by decide
   rw [Û] at this
   simpa using this o ho
mutual
def EI:Ag->Bool
 |.mk _ _ _ kids _=>decide (kids.length<=1000000)&&JX kids
def JX:List Ag->Bool
 | []=>true
 |e::l=>EI e&&JX l
end
mutual
def B5:Ag->Int×Aa×An
 |.mk op n s kids p =>
  if op<1∨20<op∨(0<=arity op/\(kids.length:Int)≠arity op) then UD p 1
  else match FV kids with
   |.inr o=>o
   |.inl ts =>
    if op=1 then (if n<0∨999999999999999<n then UD p 1 else (1,op0,⟨0,0⟩))
    else if op=2 then UD p 7
    else if op=3 then (if (Dv CI s).2=true then ((Dv CI s).1,op0,⟨0,0⟩) else UD p 6)
    else match CE op s ts JW false false with
     |.inr o=>o
     |.inl (kn,fi)=>if op=4/\kn=false then UD p 6 else if op=4/\fi=false then UD p 1 else UD p 7
def FV:List Ag->List Int ⊕ (Int×Aa×An)
 | []=>.inl []
 |e::l =>
  if (B5 e).2.2.E≠0 then .inr (0,op0,(B5 e).2.2)
  else match FV l with
   |.inl ts=>.inl ((B5 e).1::ts)
   |.inr o=>.inr o
end
theorem Aby {l ys:List Int}(h1:l.length<=1000000)(h2:ys.length<=1000000):Cs 9 l ys=some (l++ys):=by
 unfold Cs
 rw [Ç (by omega)]
theorem Ug (s:AZ)(e:Ag)(hk:e.Kids.length<=1000000)(hf:∀ x∈e.Kids,Ev (fun n=>A5 n s x) (B5 x)) :
 ∀ (r:List Ag) (k:Nat) (ts:List Int),e.Kids.drop k=r->k<=e.Kids.length->ts.length=k->Ev (fun n=>Bn n e s ts (k:Int)) (match FV r with|.inl us=>.inl (ts++us)|.inr o=>.inr o)
 | [],k,ts,hr,hkl,_=>by
  have he:=J8 hr hkl
  refine Ev.step (f:=fun n=>some (.inl ts)) (fun n=>?_) ?_
  . rw [Fx,show (decide ((k:Int)<(e.Kids.length:Int)))=false by rw [Ù];omega];rfl
  . rw [FV];simp only [đ];exact Ev.pure
 |x::r,k,ts,hr,hkl,hts=>by
  obtain⟨h1,h2⟩:=Ge hr
  have hmem:x∈e.Kids:=æ (by rw [hr];simp)
  refine Ev.step (f:=fun n=>(A5 n s x).bind fun f7=>bif (f7.2.2.E != 0) then some (.inr (0,op0,f7.2.2)) else Bn n e s (ts++[f7.1]) ((k+1:Nat):Int)) (fun n=>?_) ?_
  . rw [Fx,Pb h2,Ï,Pc hr,Á]
    congr 1
    funext f7
    rw [Á,Aby (by omega) (by simp),Á,Nz (by omega)]
    rfl
  . refine Ev.bind (hf x hmem) ?_
    rw [FV]
    by_cases c:(B5 x).2.2.E=0
    . have ih:=Ug s e hk hf r (k+1) (ts++[(B5 x).1]) h1 (by omega) (by simp [hts])
      simp only [show ((B5 x).2.2.E != 0)=false by simpa using c,Ð]
      rw [Å (by simpa using c)]
      cases ht:FV r with
      |inl us=>rw [ht] at ih;simpa [ñ] using ih
      |inr o=>rw [ht] at ih;exact ih
    . simp only [show ((B5 x).2.2.E != 0)=true by simpa using c,Ï]
      rw [Ç c];exact Ev.pure
theorem XB (ops:List Aa)(os:List Nat)(ho:Ord os)(hops:ops=opsOf os)(e:Ag)(hk:e.Kids.length<=1000000)(hf:∀ x∈e.Kids,Ev (fun n=>A5 n ⟨ops,CI⟩ x) (B5 x)) :
 Ev (fun n=>A5 n ⟨ops,CI⟩ e) (B5 e):=by
 obtain⟨op,num,str,kids,at0⟩:=e
 simp only at hk hf
 have hkids:=Ug ⟨ops,CI⟩ ⟨op,num,str,kids,at0⟩ hk hf kids 0 [] rfl (ü _) rfl
 have hsearch:∀ ts,Ev (fun n=>AO n ⟨ops,CI⟩ ⟨op,num,str,kids,at0⟩ ts false false 0) (CE op str ts JW false false):=fun ts=>by
  have:=Ms ops CI ⟨op,num,str,kids,at0⟩ ts (by rw [hops];exact Xu ho) (by rw [hops];exact Vq) ops 0 false false rfl (ü _)
  rw [hops,Si ho] at this
  rw [hops];exact this
 refine Ev.step (fun n=>A5.eq_2 ⟨ops,CI⟩ ⟨op,num,str,kids,at0⟩ n) ?_
 simp only [TM,Á,AY]
 rw [B5]
 have hc:((bif (decide (op<1)) then some true else bif (decide (20<op)) then some true else bif (decide (0<=arity op)) then some ((kids.length:Int) != arity op) else some false):Option Bool) =
  some (decide (op<1∨20<op∨(0<=arity op/\(kids.length:Int)≠arity op))):=by
  by_cases c1:op<1
  . simp [c1]
  by_cases c2:20<op
  . simp [c1,c2]
  by_cases c3:0<=arity op
  . by_cases c4:(kids.length:Int)=arity op
    . simp [c1,c2,c3,c4]
    . simp [c1,c2,c3,c4]
  . simp [c1,c2,c3]
 simp only [hc,Á]
 by_cases c:op<1∨20<op∨(0<=arity op/\(kids.length:Int)≠arity op)
 . rw [Ç c]
   simp only [Ì c,Ï,Á]
   exact Ev.pure
 . rw [Å c]
   simp only [Ë c,Ð]
   refine Ev.bind hkids ?_
   cases ht:FV kids with
   |inr o=>exact Ev.pure
   |inl ts =>
    simp only [Ā]
    by_cases h1:op=1
    . subst h1
      simp only [ú,Ï,ø]
      by_cases n1:num<0
      . simp only [n1,decide_true,Ï,Á,true_or,ø];exact Ev.pure
      . by_cases n2:999999999999999<num
        . simp only [n1,n2,decide_true,decide_false,Ï,Ð,Á,or_true,ø];exact Ev.pure
        . simp only [n1,n2,decide_false,Ð,Á,or_self,ÿ];exact Ev.pure
    simp only [show (op == 1)=false by simpa using h1,Ð,Å h1]
    by_cases h2:op=2
    . subst h2
      simp only [ú,Ï,ø,Á];exact Ev.pure
    simp only [show (op == 2)=false by simpa using h2,Ð,Å h2]
    by_cases h3:op=3
    . subst h3
      simp only [ú,Ï,ø]
      cases hg:(Dv CI str).2 with
      |true=>simp only [Ï,ø];exact Ev.pure
      |false=>simp only [Ð,è,ÿ,Á];exact Ev.pure
    simp only [show (op == 3)=false by simpa using h3,Ð,Å h3]
    refine Ev.bind (hsearch ts) ?_
    cases hs:CE op str ts JW false false with
    |inr o=>exact Ev.pure
    |inl y =>
     obtain⟨kn,fi⟩:=y
     simp only
     by_cases h4:op=4
     . subst h4
       simp only [ú,Ï,Á,ô]
       cases kn with
       |false=>simp only [Bool.not_false,Ï,ø,Á];exact Ev.pure
       |true =>
        cases fi with
        |false=>simp only [Ĕ,Bool.not_false,Ï,Ð,ø,Á,Bool.true_eq_false,ÿ];exact Ev.pure
        |true=>simp only [Ĕ,Ð,Á,Bool.true_eq_false,ÿ];exact Ev.pure
     . simp only [show (op == 4)=false by simpa using h4,Ð,Á,h4,false_and,ÿ];exact Ev.pure
mutual
theorem SB {os:List Nat}(ho:Ord os):∀ (e:Ag),EI e=true->Ev (fun n=>A5 n ⟨opsOf os,CI⟩ e) (B5 e)
 |.mk op num str kids at0,h=>by
  rw [EI,Æ,Î] at h
  exact XB (opsOf os) os ho rfl _ h.1 (Us ho kids h.2)
theorem Us {os:List Nat}(ho:Ord os):∀ (l:List Ag),JX l=true->∀ x∈l,Ev (fun n=>A5 n ⟨opsOf os,CI⟩ x) (B5 x)
 | [],_,x,hx=>by simp at hx
 |e::l,h,x,hx=>by
  rw [JX,Æ] at h
  rcases List.mem_cons.1 hx with hx|hx
  . rw [hx];exact SB ho e h.1
  . exact Us ho l h.2 x hx
end
def IX (e:Ag):Option (Int×Aa×An):=if EI e=true then some (B5 e) else none
end Go.Sp
namespace Go.Sp
open Go
def IF (n:Int):Int:=if n < -999999999999999 then -999999999999999 else if 999999999999999<n then 999999999999999 else n
def Oi (n:Int):Int:=if n<0 then 0 else if 41667<n then 41667 else n
def Q7 (n:Int):Int:=if n<0 then 0 else if 1000<n then 1000 else n
def NQ (d n:Int):Int:=if d=41667 then d else Oi (d+n)
def IK (t v:Int):Prop:=(t=1/\-999999999999999<=v/\v<=999999999999999)∨(t=2/\0<=v/\v<=41667)∨(t=3/\0<=v/\v<=1)∨(t=4/\0<=v/\v<=1000)
def okF (f:BA):Bool:=decide (1<=f.Kind/\f.Kind<=5/\1<=f.Who/\f.Who<=1000/\0<=f.Day/\f.Day<=41666/\0<=f.Known/\f.Known<=41666)
def FY (d:Al)(known:Int):Int :=
 if 200<d.Facts.length then 2
 else if d.Facts.all okF=true/\0<=d.Stored/\d.Stored<=41666/\0<=known/\known<=41666/\0<=d.Owner/\d.Owner<=1000 then 0 else 1
structure OkM (m:Ah):Prop where
 len:m.d.Facts.length<=200
 facts:∀ f∈m.d.Facts,okF f=true
 st:0<=m.d.Stored/\m.d.Stored<=41666
 kn:0<=m.known/\m.known<=41666
 ow:0<=m.d.Owner/\m.d.Owner<=1000
theorem Y6 {m:Ah}(h:FY m.d m.known=0):OkM m:=by
 unfold FY at h
 split at h
 . cases h
 . rename_i h1
   split at h
   . rename_i h2
     exact⟨by omega,List.all_eq_true.1 h2.1,⟨h2.2.1,h2.2.2.1⟩,⟨h2.2.2.2.1,h2.2.2.2.2.1⟩,h2.2.2.2.2.2⟩
   . cases h
theorem Vm (x1 x0 y1 y0:Int):(4294967296*x1+x0)*(4294967296*y1+y0)=18446744073709551616*(x1*y1)+4294967296*(x1*y0)+4294967296*(x0*y1)+x0*y0:=by
 grind
theorem Z1 {x:Int}(h0:0<=x)(h1:x<18446744073709551616):bits .and .u64 x 4294967295=x % 4294967296:=by
 have h:=bits_mask .u64 64 (by decide) wraps_u64 32 (by decide) x h0 (by omega)
 simpa using h
theorem YA (x y:Int)(hx:0<=x)(hx2:x<=999999999999999)(hy:0<=y)(hy2:y<=999999999999999):ES x y=some (x*y / 18446744073709551616,x*y % 18446744073709551616):=by
 have hs:(2:Int) ^ min (32:Int).toNat IntKind.u64.bits=4294967296:=by decide
 unfold ES
 rw [hs,Z1 hx (by omega),Z1 hy (by omega)]
 simp only [Int.fdiv_eq_ediv_of_nonneg _ (show (0:Int)<=4294967296 by decide)]
 have ex:x=4294967296*(x / 4294967296)+x % 4294967296:=by omega
 have ey:y=4294967296*(y / 4294967296)+y % 4294967296:=by omega
 have hp:=Vm (x / 4294967296) (x % 4294967296) (y / 4294967296) (y % 4294967296)
 rw [<- ex,<- ey] at hp
 rw [IntKind.wrap_u64 (x*y)]
 have b1:0<=x / 4294967296/\x / 4294967296<=232831:=by omega
 have b2:0<=x % 4294967296/\x % 4294967296<=4294967295:=by omega
 have b3:0<=y / 4294967296/\y / 4294967296<=232831:=by omega
 have b4:0<=y % 4294967296/\y % 4294967296<=4294967295:=by omega
 generalize x / 4294967296=x1 at *
 generalize x % 4294967296=x0 at *
 generalize y / 4294967296=y1 at *
 generalize y % 4294967296=y0 at *
 have p1:=Int.mul_le_mul b1.2 b3.2 b3.1 (by decide)
 have p2:=Int.mul_le_mul b1.2 b4.2 b4.1 (by decide)
 have p3:=Int.mul_le_mul b2.2 b3.2 b3.1 (by decide)
 have p4:=Int.mul_le_mul b2.2 b4.2 b4.1 (by decide)
 have q1:=Int.mul_nonneg b1.1 b3.1
 have q2:=Int.mul_nonneg b1.1 b4.1
 have q3:=Int.mul_nonneg b2.1 b3.1
 have q4:=Int.mul_nonneg b2.1 b4.1
 rw [hp]
 generalize x1*y1=A at *
 generalize x1*y0=B at *
 generalize x0*y1=E at *
 generalize x0*y0=C at *
 rw [wraps_u64 A (by omega) (by omega),wraps_u64 B (by omega) (by omega),wraps_u64 C (by omega) (by omega),wraps_u64 E (by omega) (by omega)]
 rw [wraps_u64 (B+C / 4294967296) (by omega) (by omega)]
 rw [Z1 (by omega) (by omega)]
 rw [wraps_u64 (A+(B+C / 4294967296) / 4294967296) (by omega) (by omega),wraps_u64 ((B+C / 4294967296) % 4294967296+E) (by omega) (by omega)]
 rw [wraps_u64 _ (by omega) (by omega)]
 congr 2
 omega
theorem Z4 {a:Int}(h : -999999999999999<=a/\a<=999999999999999):IntKind.u64.wrap (if (À (0-a)) > a then (À (0-a)) else a)=if a<0 then -a else a:=by
 rw [CW (by omega) (by omega)]
 by_cases c:a<0
 . rw [Ç (by omega),Ç c,wraps_u64 _ (by omega) (by omega)];omega
 . rw [Å (by omega),Å c,wraps_u64 _ (by omega) (by omega)]
theorem Yf (a b:Int)(ha : -999999999999999<=a/\a<=999999999999999)(hb : -999999999999999<=b/\b<=999999999999999):Dx a b=some (IF (a*b)):=by
 unfold Dx
 rw [Z4 ha,Z4 hb]
 generalize hx:(if a<0 then -a else a)=x
 generalize hy:(if b<0 then -b else b)=y
 have x0:0<=x/\x<=999999999999999:=by split at hx<;>omega
 have y0:0<=y/\y<=999999999999999:=by split at hy<;>omega
 rw [YA x y x0.1 x0.2 y0.1 y0.2,Á]
 have hp:=Int.mul_nonneg x0.1 y0.1
 have hab:a*b=if (decide (a<0)) == (decide (b<0)) then x*y else -(x*y):=by
  grind [Dx,IF]
 generalize x*y=p at *
 have hn:((bif ((p / 18446744073709551616:Int) == 0) then some (decide ((p % 18446744073709551616:Int)<999999999999999)) else some false):Option Bool)=some (decide (p<999999999999999)):=by
  by_cases c:p / 18446744073709551616=0
  . grind [Dx,IF]
  . rw [show ((p / 18446744073709551616:Int) == 0)=false by simpa using c,Ð]
    congr 1
    symm;rw [Ù];omega
 simp only [hn,Á]
 have hm:((bif (decide (p<999999999999999)) then some (À (p % 18446744073709551616)) else some 999999999999999):Option Int)=some (if p<999999999999999 then p else 999999999999999):=by
  by_cases c:p<999999999999999
  . rw [Ì c,Ï,Ç c,CW (by omega) (by omega)];congr 1;omega
  . rw [Ë c,Ð,Å c]
 simp only [hm,Á]
 rw [hab]
 have hq:∃ q,(if p<999999999999999 then p else 999999999999999)=q/\0<=q/\q<=999999999999999/\(p<=999999999999999->q=p)/\(999999999999999<p->q=999999999999999):=by
  refine⟨_,rfl,?_⟩
  split<;>omega
 obtain⟨q,hq,q1,q2,q3,q4⟩:=hq
 rw [hq]
 unfold IF
 cases hc:(decide (a<0)) == (decide (b<0)) with
 |true =>
  rw [Ĕ,Ð,Ç rfl,Å (by omega)]
  congr 1
  by_cases c:999999999999999<p
  . rw [Ç c];omega
  . rw [Å c];omega
 |false =>
  rw [Bool.not_false,Ï,Å Bool.false_ne_true,CW (by omega) (by omega)]
  congr 1
  by_cases c:999999999999999<p
  . rw [Ç (by omega)];omega
  . rw [Å (by omega),Å (by omega)];omega
def isF (known kind who:Int)(f:BA):Bool:=f.Kind == kind&&(f.Who == who&&decide (f.Known<=known))
def Yw (b:Option BA)(f:BA):Bool:=match b with
 |none=>true
 |some g=>decide (g.Known<=f.Known)
def Nt (p:BA->Bool):List BA->Option BA->Option BA
 | [],b=>b
 |f::r,b=>Nt p r (if (p f&&Yw b f)=true then some f else b)
def Aes:Option BA->Int
 |none=>41667
 |some f=>f.Day
def O8 (m:Ah)(kind who:Int):Int:=Aes (Nt (isF m.known kind who) m.d.Facts none)
def Ady (l:List BA)(i:Int)(b:Option BA):Prop:=match b with
 |none=>i = -1
 |some f=>0<=i/\gi l i=some f
theorem Qy (m:Ah)(kind who:Int)(hl:m.d.Facts.length<=200):∀ (r:List BA) (k:Nat) (i:Int) (b:Option BA),m.d.Facts.drop k=r->k<=m.d.Facts.length->Ady m.d.Facts i b ->
 ∃ j,Ev (fun n=>Br n m kind who i (k:Int)) j/\Ady m.d.Facts j (Nt (isF m.known kind who) r b)
 | [],k,i,b,hr,hk,hb=>by
  have he:=J8 hr hk
  refine⟨i,Ev.step (f:=fun n=>some i) (fun n=>?_) Ev.pure,hb⟩
  rw [DR,show (decide ((k:Int)<(m.d.Facts.length:Int)))=false by rw [Ù];omega];rfl
 |f::r,k,i,b,hr,hk,hb=>by
  obtain⟨h1,h2⟩:=Ge hr
  have hg:=Pc hr
  have hc:((bif (f.Kind == kind) then
   bif (f.Who == who) then
    bif (decide (f.Known<=m.known)) then
     bif (decide (i<0)) then
      some true
     else
      (gi m.d.Facts i).bind fun x2 =>
      some (decide (x2.Known<=f.Known))
    else
     some false
   else
    some false
   else
    some false
   ):Option Bool)=some (isF m.known kind who f&&Yw b f):=by
   unfold isF
   cases (f.Kind == kind)<;>cases (f.Who == who)<;>cases (decide (f.Known<=m.known))<;>simp only [Ï,Ð,ī,Bool.true_and,Bool.false_and,Bool.and_false]
   cases b with
   |none =>
    have:i = -1:=hb
    subst this
    rfl
   |some g =>
    have hb:0<=i/\gi m.d.Facts i=some g:=hb
    rw [show decide (i<0)=false by rw [Ù];omega,Ð,hb.2];rfl
  cases hx:(isF m.known kind who f&&Yw b f) with
  |true =>
   obtain⟨j,h3,h4⟩:=Qy m kind who hl r (k+1) (k:Int) (some f) h1 (by omega) ⟨by omega,hg⟩
   refine⟨j,Ev.step (fun n=>?_) h3,?_⟩
   . grind [DR,Pb,Nz]
   . rw [Nt,Ç hx];exact h4
  |false =>
   obtain⟨j,h3,h4⟩:=Qy m kind who hl r (k+1) i b h1 (by omega) hb
   refine⟨j,Ev.step (fun n=>?_) h3,?_⟩
   . grind [DR,Pb,Nz]
   . rw [Nt,Å (by rw [hx];exact Bool.false_ne_true)];exact h4
theorem Abg (m:Ah)(kind who:Int)(hl:m.d.Facts.length<=200):Ev (fun n=>C5 n m kind who) (O8 m kind who):=by
 obtain⟨j,h1,h2⟩:=Qy m kind who hl m.d.Facts 0 (-1) none rfl (ü _) rfl
 unfold C5
 refine Ev.bind h1 ?_
 unfold O8
 cases hb:Nt (isF m.known kind who) m.d.Facts none with
 |none =>
  rw [hb] at h2
  have:j = -1:=h2
  subst this
  exact Ev.pure
 |some f =>
  rw [hb] at h2
  have h2:0<=j/\gi m.d.Facts j=some f:=h2
  simp only [show decide (j<0)=false by rw [Ù];omega,Ð,h2.2,Á]
  exact Ev.pure
theorem RQ {p:BA->Bool}:∀ {l:List BA} {b:Option BA} {f:BA},Nt p l b=some f->f∈l∨b=some f
 | [],b,f,h=>.inr h
 |x::l,b,f,h=>by
  rw [Nt] at h
  rcases RQ h with h|h
  . exact .inl (ĝ _ h)
  . split at h
    . exact .inl (by rw [Af h];simp)
    . exact .inr h
theorem YD {m:Ah}(hm:OkM m)(kind who:Int):0<=O8 m kind who/\O8 m kind who<=41667:=by
 unfold O8
 cases hb:Nt (isF m.known kind who) m.d.Facts none with
 |none=>exact⟨by decide,by decide⟩
 |some f =>
  rcases RQ hb with h|h
  . have:=hm.facts f h
    unfold okF at this
    rw [Î] at this
    unfold Aes
    simp only
    omega
  . cases h
def OF (b:Bool):Int:=if b=true then 1 else 0
def Tk (m:Ah)(d:Do)(x:List Int):Int:=match d with
 |.c 82=>-(x.getD 0 0)
 |.c 83=>IF (x.getD 0 0*x.getD 1 0)
 |.c 85=>IF (x.getD 0 0+x.getD 1 0)
 |.c 87=>NQ (x.getD 0 0) (x.getD 1 0)
 |.c 89=>IF (x.getD 0 0-x.getD 1 0)
 |.c 90=>NQ (x.getD 0 0) (-(x.getD 1 0))
 |.c 91=>x.getD 0 0-x.getD 1 0
 |.c 92=>1-x.getD 0 0
 |.c 93=>x.getD 0 0*x.getD 1 0
 |.c 94=>max (x.getD 0 0) (x.getD 1 0)
 |.c 95=>Oi (x.getD 0 0)
 |.c 97=>Q7 (x.getD 0 0)
 |.c 108=>if x.getD 0 0=1 then x.getD 1 0 else x.getD 2 0
 |.c 109=>min (x.getD 0 0) (x.getD 1 0)
 |.c 110=>max (x.getD 0 0) (x.getD 1 0)
 |.k k=>O8 m (k+1) (x.getD 0 0)
 |.is 100=>OF (decide (x.getD 0 0<x.getD 1 0))
 |.is 101=>OF (decide (x.getD 0 0<=x.getD 1 0))
 |.is 102=>OF (decide (x.getD 1 0<x.getD 0 0))
 |.is 103=>OF (decide (x.getD 1 0<=x.getD 0 0))
 |.is 104=>OF (x.getD 0 0 == x.getD 1 0)
 |.is 105=>OF (x.getD 0 0 != x.getD 1 0)
 |_=>0
def Rc:List Int->List Int->Prop
 | [],[]=>True
 |t::ts,x::xs=>IK t x/\Rc ts xs
 |_,_=>False
theorem Afd {t:Int}{xs:List Int}(h:Rc [t] xs):∃ a,xs=[a]/\IK t a:=by
 match xs,h with
 | [a],h=>exact⟨a,rfl,h.1⟩
theorem Afc {t u:Int}{xs:List Int}(h:Rc [t,u] xs):∃ a b,xs=[a,b]/\IK t a/\IK u b:=by
 match xs,h with
 | [a,b],h=>exact⟨a,b,rfl,h.1,h.2.1⟩
theorem Afb {t u v:Int}{xs:List Int}(h:Rc [t,u,v] xs):∃ a b c,xs=[a,b,c]/\IK t a/\IK u b/\IK v c:=by
 match xs,h with
 | [a,b,c],h=>exact⟨a,b,c,rfl,h.1,h.2.1,h.2.2.1⟩
theorem R5 (n:Int):CP n=some (IF n):=by
 unfold CP IF
 congr 1
 repeat' split
 all_goals omega
theorem Zp (n:Int):FD n=some (Oi n):=by
 unfold FD Oi
 congr 1
 repeat' split
 all_goals omega
theorem TX {d n:Int}(h : -1000000000000000<=n/\n<=1000000000000000)(h2:0<=d/\d<=41667):Dy d n=some (NQ d n):=by
 grind [Dy,NQ,Zp,CW]
theorem Ab3 {a b:Int}(ha:0<=a/\a<=1)(hb:0<=b/\b<=1):bits .and .i64 a b=a*b/\bits .or .i64 a b=max a b:=by
 have h1:a=0∨a=1:=by omega
 have h2:b=0∨b=1:=by omega
 rcases h1 with rfl|rfl<;>rcases h2 with rfl|rfl<;>decide
theorem YX (b:Bool):(Dq b).bind (fun f=>some f)=some (OF b):=by cases b<;>rfl
instance (t v:Int):Decidable (IK t v):=by unfold IK;exact inferInstance
theorem Abc (b:Bool):IK 3 (OF b):=by cases b<;>decide
theorem op1 {t:Int}(m:Ah){d:Do}{k:Int}(h:∀ a,IK t a->Ev (fun n=>Gt n d m [a]) (Tk m d [a])/\IK k (Tk m d [a])):∀ xs,Rc [t] xs->Ev (fun n=>Gt n d m xs) (Tk m d xs)/\IK k (Tk m d xs):=by
 intro xs hx
 obtain⟨a,rfl,h1⟩:=Afd hx
 exact h a h1
theorem Y3 {t u:Int}(m:Ah){d:Do}{k:Int}(h:∀ a b,IK t a->IK u b->Ev (fun n=>Gt n d m [a,b]) (Tk m d [a,b])/\IK k (Tk m d [a,b])):∀ xs,Rc [t,u] xs->Ev (fun n=>Gt n d m xs) (Tk m d xs)/\IK k (Tk m d xs):=by
 intro xs hx
 obtain⟨a,b,rfl,h1,h2⟩:=Afc hx
 exact h a b h1 h2
theorem op3 {t u v:Int}(m:Ah){d:Do}{k:Int}(h:∀ a b c,IK t a->IK u b->IK v c->Ev (fun n=>Gt n d m [a,b,c]) (Tk m d [a,b,c])/\IK k (Tk m d [a,b,c])):∀ xs,Rc [t,u,v] xs->Ev (fun n=>Gt n d m xs) (Tk m d xs)/\IK k (Tk m d xs):=by
 intro xs hx
 obtain⟨a,b,c,rfl,h1,h2,h3⟩:=Afb hx
 exact h a b c h1 h2 h3
theorem in1 {v:Int}(h:IK 1 v) : -999999999999999<=v/\v<=999999999999999:=by unfold IK at h;omega
theorem in2 {v:Int}(h:IK 2 v):0<=v/\v<=41667:=by unfold IK at h;omega
theorem ZM {v:Int}(h:IK 3 v):0<=v/\v<=1:=by unfold IK at h;omega
theorem to1 {v:Int}(h : -999999999999999<=v/\v<=999999999999999):IK 1 v:=by unfold IK;omega
theorem to2 {v:Int}(h:0<=v/\v<=41667):IK 2 v:=by unfold IK;omega
theorem to3 {v:Int}(h:0<=v/\v<=1):IK 3 v:=by unfold IK;omega
theorem to4 {v:Int}(h:0<=v/\v<=1000):IK 4 v:=by unfold IK;omega
theorem Oh (n:Int):IK 1 (IF n):=to1 (by unfold IF;split<;>(try split)<;>omega)
theorem RN (n:Int):IK 2 (Oi n):=to2 (by unfold Oi;split<;>(try split)<;>omega)
theorem XQ (n:Int):IK 4 (Q7 n):=to4 (by unfold Q7;split<;>(try split)<;>omega)
theorem TY {d:Int}(n:Int)(h:0<=d/\d<=41667):IK 2 (NQ d n):=by
 unfold NQ
 split
 . exact to2 h
 . exact RN _
def Ti (m:Ah)(o:Aa):Prop:=∀ xs,Rc o.args xs->Ev (fun n=>Gt n o.do_ m xs) (Tk m o.do_ xs)/\IK o.kind (Tk m o.do_ xs)
theorem Aat (m:Ah)(hm:OkM m):∀ o∈FM,Ti m o:=by
 have fact:∀ (s:Ä) (k:Int),k=0∨k=1∨k=2∨k=3∨k=4->Ti m ⟨4,s,[4],2,.k k⟩:=fun s k hk=>op1 m fun a ha=>by
  refine⟨?_,to2 (YD hm _ _)⟩
  show Ev (fun n=>(gi [a] 0).bind fun x1=>(C5 n m (À (k+1)) x1).bind fun f=>some f) (O8 m (k+1) a)
  rw [CW (by omega) (by omega)]
  show Ev (fun n=>(C5 n m (k+1) a).bind fun f=>some f) (O8 m (k+1) a)
  exact Ev.bind (Abg m (k+1) a hm.len) Ev.pure
 unfold FM
 simp only [List.forall_mem_cons,List.not_mem_nil,false_imp_iff,implies_true,and_true]
 refine⟨?_,?_,?_,?_,?_,?_,?_,?_,?_,?_,?_,?_,fact _ _ (by simp),fact _ _ (by simp),fact _ _ (by simp),fact _ _ (by simp),fact _ _ (by simp)⟩
 . refine op1 m fun a ha=>?_
   have:=in1 ha
   refine⟨Ev.const ?_,to1 (by show _<=-a/\-a<=_;omega)⟩
   show some (À (0-a))=some (-a)
   rw [CW (by omega) (by omega)];congr 1;omega
 . refine Y3 m fun a b ha hb=>⟨Ev.const ?_,Oh _⟩
   show (Dx a b).bind _=_
   rw [Yf a b (in1 ha) (in1 hb)];rfl
 . refine Y3 m fun a b ha hb=>⟨Ev.const ?_,Oh _⟩
   have:=in1 ha
   have:=in1 hb
   show (CP (À (a+b))).bind _=_
   rw [CW (by omega) (by omega),R5];rfl
 . refine Y3 m fun a b ha hb=>⟨Ev.const ?_,TY _ (in2 ha)⟩
   have:=in1 hb
   show (Dy a b).bind _=_
   rw [TX (by omega) (in2 ha)];rfl
 . refine Y3 m fun a b ha hb=>⟨Ev.const ?_,Oh _⟩
   have:=in1 ha
   have:=in1 hb
   show (CP (À (a-b))).bind _=_
   rw [CW (by omega) (by omega),R5];rfl
 . refine Y3 m fun a b ha hb=>⟨Ev.const ?_,TY _ (in2 ha)⟩
   have:=in1 hb
   show (Dy a (À (0-b))).bind _=_
   rw [CW (by omega) (by omega),TX (by omega) (in2 ha),show (0:Int)-b = -b by omega];rfl
 . refine Y3 m fun a b ha hb=>?_
   have:=in2 ha
   have:=in2 hb
   refine⟨Ev.const ?_,to1 (by show _<=a-b/\a-b<=_;omega)⟩
   show some (À (a-b))=some (a-b)
   rw [CW (by omega) (by omega)]
 . refine op1 m fun a ha=>?_
   have:=ZM ha
   refine⟨Ev.const ?_,to3 (by show _<=1-a/\1-a<=_;omega)⟩
   show some (À (1-a))=some (1-a)
   rw [CW (by omega) (by omega)]
 . refine Y3 m fun a b ha hb=>?_
   have h1:a=0∨a=1:=by have:=ZM ha;omega
   have h2:b=0∨b=1:=by have:=ZM hb;omega
   refine⟨Ev.const ?_,?_⟩
   . show some (bits .and .i64 a b)=some (a*b)
     rw [(Ab3 (ZM ha) (ZM hb)).1]
   . show IK 3 (a*b)
     rcases h1 with rfl|rfl<;>rcases h2 with rfl|rfl<;>decide
 . refine Y3 m fun a b ha hb=>?_
   have h1:a=0∨a=1:=by have:=ZM ha;omega
   have h2:b=0∨b=1:=by have:=ZM hb;omega
   refine⟨Ev.const ?_,?_⟩
   . show some (bits .or .i64 a b)=some (max a b)
     rw [(Ab3 (ZM ha) (ZM hb)).2]
   . show IK 3 (max a b)
     rcases h1 with rfl|rfl<;>rcases h2 with rfl|rfl<;>decide
 . refine op1 m fun a ha=>⟨Ev.const ?_,RN _⟩
   show (FD a).bind _=_
   rw [Zp];rfl
 . refine op1 m fun a ha=>⟨Ev.const ?_,XQ _⟩
   show some (if (if 1000<a then 1000 else a) > 0 then (if 1000<a then 1000 else a) else 0)=some (Q7 a)
   unfold Q7
   congr 1
   repeat' split
   all_goals omega
theorem Aci (m:Ah)(i:Nat):∀ o∈He i,Ti m o:=by
 have cmp:∀ (op t:Int) (f:Nat),f=100∨f=101∨f=102∨f=103∨f=104∨f=105->Ti m ⟨op,⟨#[]⟩,[t,t],3,.is f⟩:=fun op t f hf=>Y3 m fun a b _ _=>by
  rcases hf with rfl|rfl|rfl|rfl|rfl|rfl<;>exact⟨Ev.const (YX _),Abc _⟩
 intro o ho
 unfold He at ho
 split at ho
 . rename_i op f e
   have hf:f=100∨f=101∨f=102∨f=103∨f=104∨f=105:=by
    grind [opk,List.mem_of_getElem?]
   unfold Jp at ho
   split at ho<;>simp at ho
   . rcases ho with rfl|rfl|rfl<;>exact cmp _ _ _ hf
   . rcases ho with rfl|rfl<;>exact cmp _ _ _ hf
 . simp at ho
theorem Aas (m:Ah):∀ o∈Oq,Ti m o:=by
 have ite:∀ t:Int,Ti m ⟨20,⟨#[]⟩,[3,t,t],t,.c 108⟩:=fun t=>op3 m fun a b c ha hb hc=>by
  have h1:a=0∨a=1:=by have:=ZM ha;omega
  rcases h1 with rfl|rfl
  . exact⟨Ev.const rfl,hc⟩
  . exact⟨Ev.const rfl,hb⟩
 have mn:∀ t:Int,Ti m ⟨4,⟨#[109,105,110]⟩,[t,t],t,.c 109⟩:=fun t=>Y3 m fun a b ha hb=>by
  have e:Tk m (.c 109) [a,b]=min a b:=rfl
  rw [e]
  refine⟨Ev.const ?_,?_⟩
  . show some (if b<a then b else a)=some (min a b)
    congr 1
    split<;>omega
  . grind [Oq]
 have mx:∀ t:Int,Ti m ⟨4,⟨#[109,97,120]⟩,[t,t],t,.c 110⟩:=fun t=>Y3 m fun a b ha hb=>by
  have e:Tk m (.c 110) [a,b]=max a b:=rfl
  rw [e]
  refine⟨Ev.const ?_,?_⟩
  . show some (if b > a then b else a)=some (max a b)
    congr 1
    split<;>omega
  . grind [Oq]
 unfold Oq
 simp only [List.forall_mem_cons,List.not_mem_nil,false_imp_iff,implies_true,and_true]
 exact⟨ite 1,mn 1,mx 1,ite 2,mn 2,mx 2,ite 3,ite 4⟩
theorem Acf (m:Ah)(hm:OkM m)(os:List Nat):∀ o∈opsOf os,Ti m o:=by
 grind [opsOf,Aat,Aci,Aas]
theorem RS {p x:Int}(h:x≠0):¬ (UD p x).2.2.E=0:=h
theorem YZ {op num at0:Int}{str:Ä}{kids:List Ag}(h:(B5 (.mk op num str kids at0)).2.2.E=0) :
 ∃ ts,FV kids=.inl ts/\((op=1/\0<=num/\num<=999999999999999/\kids=[]/\B5 (.mk op num str kids at0)=(1,op0,⟨0,0⟩))
  ∨ (op=3/\(Dv CI str).2=true/\kids=[]/\B5 (.mk op num str kids at0)=((Dv CI str).1,op0,⟨0,0⟩))
  ∨ (op≠1/\op≠3/\∃ o,o∈JW/\pick op str ts JW=some o/\o.args=ts/\B5 (.mk op num str kids at0)=(o.kind,o,⟨0,0⟩))):=by
 rw [B5] at h ⊢
 by_cases c:op<1∨20<op∨(0<=arity op/\(kids.length:Int)≠arity op)
 . rw [Ç c] at h;exact absurd h (RS (by decide))
 rw [Å c] at h ⊢
 cases ht:FV kids with
 |inr o =>
  rw [ht] at h
  exfalso
  have key:∀ (l:List Ag) (o:Int×Aa×An),FV l=.inr o->o.2.2.E≠0:=by
   intro l
   induction l with
   |nil=>intro o h;cases h
   |cons e l ih =>
    intro o h
    rw [FV] at h
    split at h
    . rename_i h1;cases h;exact h1
    . split at h
      . cases h
      . rename_i h2;cases h;exact ih _ h2
  exact key _ _ ht h
 |inl ts =>
  refine⟨ts,rfl,?_⟩
  rw [ht] at h
  simp only at h ⊢
  have a1:arity op=0->kids=[]:=fun ha=>by
   grind [arity,List.length_eq_zero_iff]
  by_cases h1:op=1
  . rw [Ç h1] at h ⊢
    split at h
    . exact absurd h (RS (by decide))
    . rename_i h2
      rw [Å h2]
      exact .inl ⟨h1,by omega,by omega,a1 (by subst h1;rfl),rfl⟩
  rw [Å h1] at h ⊢
  by_cases h2:op=2
  . rw [Ç h2] at h;exact absurd h (RS (by decide))
  rw [Å h2] at h ⊢
  by_cases h3:op=3
  . rw [Ç h3] at h ⊢
    split at h
    . rename_i h4
      rw [Ç h4]
      exact .inr (.inl ⟨h3,h4,a1 (by subst h3;rfl),rfl⟩)
    . exact absurd h (RS (by decide))
  rw [Å h3] at h ⊢
  refine .inr (.inr ⟨h1,h3,?_⟩)
  unfold CE at h ⊢
  cases hp:pick op str ts JW with
  |some o =>
   have hp2:=hp
   unfold pick at hp2
   have m1:=List.mem_of_find?_eq_some hp2
   have m2:=List.find?_some hp2
   rw [Æ,Î] at m2
   exact⟨o,m1,rfl,m2.2,rfl⟩
  |none =>
   rw [hp] at h
   simp only at h
   split at h
   . exact absurd h (RS (by decide))
   . split at h<;>exact absurd h (RS (by decide))
mutual
def N2 (m:Ah):Ag->Int
 |.mk op n s kids p =>
  if op=1 then n
  else if op=3 then (Dv [(⟨#[121,101,97,114]⟩,365),(⟨#[115,116,111,114,101,100]⟩,m.d.Stored),(⟨#[110,101,118,101,114]⟩,41667),(⟨#[111,119,110,101,114]⟩,m.d.Owner)] s).1
  else Tk m (B5 (.mk op n s kids p)).2.1.do_ (SC m kids)
def SC (m:Ah):List Ag->List Int
 | []=>[]
 |e::l=>N2 m e::SC m l
end
theorem Aax (m:Ah)(hm:OkM m)(s:Ä)(h:(Dv CI s).2=true) :
 IK (Dv CI s).1 (Dv [(⟨#[121,101,97,114]⟩,365),(⟨#[115,116,111,114,101,100]⟩,m.d.Stored),(⟨#[110,101,118,101,114]⟩,41667),(⟨#[111,119,110,101,114]⟩,m.d.Owner)] s).1:=by
 have h1:=hm.st
 have h2:=hm.ow
 all_goals grind [CI,Dv,to1,to2,to4]
theorem YO {m:Ah}{d:Do}{xs:List Int}{v:Int}(h:Ev (fun n=>Gt n d m xs) v):gfn d=some d:=by
 obtain⟨n,h⟩:=h.get
 cases d with
 |nil=>cases h
 |_=>rfl
theorem Tw (s:AZ)(m:Ah)(e:Ag)(hk:e.Kids.length<=1000000)(hf:∀ x∈e.Kids,Ev (fun n=>AB n s x m) (N2 m x)) :
 ∀ (r:List Ag) (k:Nat) (vs:List Int),e.Kids.drop k=r->k<=e.Kids.length->vs.length=k->Ev (fun n=>AR n e s m vs (k:Int)) (vs++SC m r)
 | [],k,vs,hr,hkl,_=>by
  have he:=J8 hr hkl
  refine Ev.step (f:=fun n=>some vs) (fun n=>?_) ?_
  . rw [EP,show (decide ((k:Int)<(e.Kids.length:Int)))=false by rw [Ù];omega];rfl
  . rw [SC,đ];exact Ev.pure
 |x::r,k,vs,hr,hkl,hvs=>by
  obtain⟨h1,h2⟩:=Ge hr
  have hmem:x∈e.Kids:=æ (by rw [hr];simp)
  refine Ev.step (f:=fun n=>(AB n s x m).bind fun v=>AR n e s m (vs++[v]) ((k+1:Nat):Int)) (fun n=>?_) ?_
  . rw [EP,Pb h2,Ï,Pc hr,Á]
    congr 1
    funext v
    rw [Á,Aby (by omega) (by simp),Á,Nz (by omega)]
  . refine Ev.bind (hf x hmem) ?_
    have ih:=Tw s m e hk hf r (k+1) (vs++[N2 m x]) h1 (by omega) (by simp [hvs])
    rw [SC]
    simpa [ñ] using ih
def Ab5 (os:List Nat)(m:Ah)(e:Ag):Prop:=Ev (fun n=>AB n ⟨opsOf os,CI⟩ e m) (N2 m e)/\IK (B5 e).1 (N2 m e)
theorem UP {os:List Nat}(ho:Ord os)(m:Ah)(hm:OkM m)(op num at0:Int)(str:Ä)(kids:List Ag)(hs:EI (.mk op num str kids at0)=true)(ht:(B5 (.mk op num str kids at0)).2.2.E=0)
 (hkids:∀ ts,FV kids=.inl ts->Rc ts (SC m kids)/\∀ x∈kids,Ev (fun n=>AB n ⟨opsOf os,CI⟩ x m) (N2 m x)):Ab5 os m (.mk op num str kids at0):=by
 have hfind:=SB ho _ hs
 have hs2:=hs
 rw [EI,Æ,Î] at hs2
 obtain⟨ts,h1,h2⟩:=YZ ht
 obtain⟨k1,k2⟩:=hkids ts h1
 rcases h2 with⟨rfl,n1,n2,_,hf⟩|⟨rfl,n1,_,hf⟩|⟨c1,c3,o,ho1,ho2,ho3,hf⟩
 . refine⟨?_,?_⟩
   . refine Ev.step (f:=fun n=>some num) (fun n=>?_) ?_
     . rw [DK];rfl
     . rw [N2,Ç rfl];exact Ev.pure
   . rw [hf,N2,Ç rfl];exact to1 ⟨by omega,n2⟩
 . refine⟨?_,?_⟩
   . refine Ev.step (f:=fun n=>some (N2 m (.mk 3 num str kids at0))) (fun n=>?_) Ev.pure
     rw [DK,N2,Å (by decide),Ç rfl];rfl
   . rw [hf,N2,Å (by decide),Ç rfl];exact Aax m hm str n1
 . have hop:=Acf m hm _ o ho1 (SC m kids) (by rw [ho3];exact k1)
   have hv:N2 m (.mk op num str kids at0)=Tk m o.do_ (SC m kids):=by rw [N2,Å c1,Å c3,hf]
   refine⟨?_,?_⟩
   . have loop:=Tw ⟨opsOf os,CI⟩ m (.mk op num str kids at0) hs2.1 k2 kids 0 [] rfl (ü _) rfl
     refine Ev.step (f:=fun n=>(AR n (.mk op num str kids at0) ⟨opsOf os,CI⟩ m [] 0).bind fun x=>(A5 n ⟨opsOf os,CI⟩ (.mk op num str kids at0)).bind fun f=>(gfn f.2.1.do_).bind fun d=>(Gt n d m x).bind fun r1=>some r1) (fun n=>?_) ?_
     . grind [DK]
     . refine Ev.bind loop (Ev.bind hfind ?_)
       rw [hf,hv]
       simp only [Ā,YO hop.1,Á]
       exact Ev.bind hop.1 Ev.pure
   . rw [hf,hv];exact hop.2
mutual
theorem P1 {os:List Nat}(ho:Ord os)(m:Ah)(hm:OkM m):∀ (e:Ag),EI e=true->(B5 e).2.2.E=0->Ab5 os m e
 |.mk op num str kids at0,hs,ht=>by
  refine UP ho m hm op num at0 str kids hs ht fun ts hts=>?_
  rw [EI,Æ] at hs
  exact Rq ho m hm kids ts hs.2 hts
theorem Rq {os:List Nat}(ho:Ord os)(m:Ah)(hm:OkM m):∀ (l:List Ag) (ts:List Int),JX l=true->FV l=.inl ts->Rc ts (SC m l)/\∀ x∈l,Ev (fun n=>AB n ⟨opsOf os,CI⟩ x m) (N2 m x)
 | [],ts,_,ht=>by
  rw [FV] at ht
  cases ht
  exact⟨trivial,fun x hx=>by simp at hx⟩
 |e::l,ts,hs,ht=>by
  rw [JX,Æ] at hs
  rw [FV] at ht
  by_cases c:(B5 e).2.2.E=0
  . rw [Å (by simpa using c)] at ht
    cases ht2:FV l with
    |inr o=>rw [ht2] at ht;cases ht
    |inl us =>
     rw [ht2] at ht
     cases ht
     obtain⟨g1,g2⟩:=P1 ho m hm e hs.1 c
     obtain⟨r1,r2⟩:=Rq ho m hm l us hs.2 ht2
     refine⟨⟨g2,r1⟩,fun x hx=>?_⟩
     rcases List.mem_cons.1 hx with hx|hx
     . rw [hx];exact g1
     . exact r2 x hx
  . rw [Ç c] at ht;cases ht
end
def UQ (e:Ag)(m:Ah):Option Int:=if EI e=true/\(B5 e).2.2.E=0/\FY m.d m.known=0 then some (N2 m e) else none
end Go.Sp
namespace Go.Sp
open Go Go.Vl
set_option linter.unusedVariables false
structure Ab where
 Name:Ä
 Kind:Int
 Rank:Int
 Known:Int
 From:Ag
 To:Ag
 When:Ag
 Houses:Int
def Bz (x:Ab):List PV:=[tP x.Name,iP x.Kind,iP x.Rank,iP x.Known,iP x.From.Op,iP x.From.N,tP x.From.S,hP x.From.Kids Bf,iP x.From.At,iP x.To.Op,iP x.To.N,tP x.To.S,hP x.To.Kids Bf,iP x.To.At,iP x.When.Op,iP x.When.N,tP x.When.S,hP x.When.Kids Bf,iP x.When.At,iP x.Houses]
theorem IU (x:Ab):Bz x=[tP x.Name,iP x.Kind,iP x.Rank,iP x.Known,iP x.From.Op,iP x.From.N,tP x.From.S,hP x.From.Kids Bf,iP x.From.At,iP x.To.Op,iP x.To.N,tP x.To.S,hP x.To.Kids Bf,iP x.To.At,iP x.When.Op,iP x.When.N,tP x.When.S,hP x.When.Kids Bf,iP x.When.At,iP x.Houses]:=rfl
theorem I3 (x:Ab):(Bz x).length=20:=rfl
def AJ:Rw Ab:=⟨Bz,_,20,IU,I3⟩
def Jj (x:Int):List PV:=[uP x]
theorem Xp (x:Int):Jj x=[uP x]:=rfl
theorem Vh (x:Int):(Jj x).length=1:=rfl
def Ow:Rw Int:=⟨Jj,_,1,Xp,Vh⟩
def BN:Nat->Al->Int->Option (Unit ⊕ Int)
 |0,_,_=>none
 |n+1,d,v14 =>
  bif (decide (v14<(d.Facts.length:Int))) then
   (gi d.Facts v14).bind fun x =>
   ((bif (decide (x.Kind<1)) then
    some true
   else
    bif (decide (5<x.Kind)) then
     some true
    else
     bif (decide (x.Who<1)) then
      some true
     else
      bif (decide (1000<x.Who)) then
       some true
      else
       bif (decide (x.Day<0)) then
        some true
       else
        bif (decide (41666<x.Day)) then
         some true
        else
         bif (decide (x.Known<0)) then
          some true
         else
          some (decide (41666<x.Known))
   ):Option Bool).bind fun v55 =>
    bif v55 then
     some (.inr 1)
    else
     BN n d (À (v14+1))
  else
   some (.inl ())
theorem GZ (n:Nat)(d:Al)(v14:Int):BN (n+1) d v14 =
 bif (decide (v14<(d.Facts.length:Int))) then
  (gi d.Facts v14).bind fun x =>
  ((bif (decide (x.Kind<1)) then
   some true
  else
   bif (decide (5<x.Kind)) then
    some true
   else
    bif (decide (x.Who<1)) then
     some true
    else
     bif (decide (1000<x.Who)) then
      some true
     else
      bif (decide (x.Day<0)) then
       some true
      else
       bif (decide (41666<x.Day)) then
        some true
       else
        bif (decide (x.Known<0)) then
         some true
        else
         some (decide (41666<x.Known))
  ):Option Bool).bind fun v55 =>
   bif v55 then
    some (.inr 1)
   else
    BN n d (À (v14+1))
 else
  some (.inl ()):=by rw [BN]
def EW (n:Nat)(d:Al)(known:Int):Option Int :=
 bif (decide (200<(d.Facts.length:Int))) then
  some 2
 else
  ((BN n d 0
  ):Option (Unit ⊕ Int)).bind fun y=>match y with
  |.inl _ =>
   ((bif (decide (d.Stored<0)) then
    some true
   else
    bif (decide (41666<d.Stored)) then
     some true
    else
     bif (decide (known<0)) then
      some true
     else
      bif (decide (41666<known)) then
       some true
      else
       bif (decide (d.Owner<0)) then
        some true
       else
        some (decide (1000<d.Owner))
   ):Option Bool).bind fun v82 =>
    bif v82 then
     some 1
    else
     some 0
  |.inr o=>some o
def D0 (c:Int):Option Bool :=
 ((bif (decide (97<=c)) then
  bif (decide (c<=122)) then
   some false
  else
   bif (decide (65<=c)) then
    bif (decide (c<=90)) then
     some false
    else
     bif (c == 95) then
      some false
     else
      bif (decide (48<=c)) then
       some (!(decide (c<=57)))
      else
       some true
   else
    bif (c == 95) then
     some false
    else
     bif (decide (48<=c)) then
      some (!(decide (c<=57)))
     else
      some true
 else
  bif (decide (65<=c)) then
   bif (decide (c<=90)) then
    some false
   else
    bif (c == 95) then
     some false
    else
     bif (decide (48<=c)) then
      some (!(decide (c<=57)))
     else
      some true
  else
   bif (c == 95) then
    some false
   else
    bif (decide (48<=c)) then
     some (!(decide (c<=57)))
    else
     some true
 ):Option Bool).bind fun v2 =>
  some v2
def AN:Nat->(List Int)->Int->Option (Unit ⊕ Int)
 |0,_,_=>none
 |n+1,s,v8 =>
  bif (decide (v8<(s.length:Int))) then
   (gi s v8).bind fun x =>
   (D0 x).bind fun i =>
   bif i then
    some (.inr v8)
   else
    AN n s (À (v8+1))
  else
   some (.inl ())
theorem El (n:Nat)(s:(List Int))(v8:Int):AN (n+1) s v8 =
 bif (decide (v8<(s.length:Int))) then
  (gi s v8).bind fun x =>
  (D0 x).bind fun i =>
  bif i then
   some (.inr v8)
  else
   AN n s (À (v8+1))
 else
  some (.inl ()):=by rw [AN]
def Dd (n:Nat)(s:(List Int)):Option Int :=
 ((AN n s 0
 ):Option (Unit ⊕ Int)).bind fun y=>match y with
 |.inl _ =>
  some (-1)
 |.inr o=>some o
def Ce (n:Nat)(s:(List Int)):Option Bool :=
 (Dd n s).bind fun i =>
 some (decide (0<=i))
def Ey (n:Nat)(s:Ä):Option Bool :=
 ((bif (decide (s=⟨#[]⟩)) then
  some true
 else
  bif (decide (32<(s.size:Int))) then
   some true
  else
   (gb s 0).bind fun c1 =>
   bif (decide (48<=c1)) then
    some (decide (c1<=57))
   else
    some false
 ):Option Bool).bind fun v19 =>
  bif v19 then
   some false
  else
   (Qp s).bind fun b =>
   (Ce n b).bind fun c =>
   some (!c)
def D8 (c:Ä)(c1:Int)(c2:Int)(c3:Int)(c4:Int)(c5:Int)(c6:Ä)(c7:(List Ag))(c8:Int)(c9:Int)(c10:Int)(c11:Ä)(c12:(List Ag))(c13:Int)(c14:Int)(c15:Int)(c16:Ä)(c17:(List Ag))(c18:Int)(c19:Int)(x:Ab):Option Bool :=
 some (decide (x.Name=c))
def AH:Nat->(List Ab)->Ä->Int->Int->Int->Int->Int->Ä->(List Ag)->Int->Int->Int->Ä->(List Ag)->Int->Int->Int->Ä->(List Ag)->Int->Int->Int->Option (Unit ⊕ Int)
 |0,_,_,_,_,_,_,_,_,_,_,_,_,_,_,_,_,_,_,_,_,_,_=>none
 |n+1,s,c,c1,c2,c3,c4,c5,c6,c7,c8,c9,c10,c11,c12,c13,c14,c15,c16,c17,c18,c19,v8 =>
  bif (decide (v8<(s.length:Int))) then
   (gi s v8).bind fun x =>
   (D8 c c1 c2 c3 c4 c5 c6 c7 c8 c9 c10 c11 c12 c13 c14 c15 c16 c17 c18 c19 x).bind fun c20 =>
   bif c20 then
    some (.inr v8)
   else
    AH n s c c1 c2 c3 c4 c5 c6 c7 c8 c9 c10 c11 c12 c13 c14 c15 c16 c17 c18 c19 (À (v8+1))
  else
   some (.inl ())
theorem DI (n:Nat)(s:(List Ab))(c:Ä)(c1:Int)(c2:Int)(c3:Int)(c4:Int)(c5:Int)(c6:Ä)(c7:(List Ag))(c8:Int)(c9:Int)(c10:Int)(c11:Ä)(c12:(List Ag))(c13:Int)(c14:Int)(c15:Int)(c16:Ä)(c17:(List Ag))(c18:Int)(c19:Int)(v8:Int):AH (n+1) s c c1 c2 c3 c4 c5 c6 c7 c8 c9 c10 c11 c12 c13 c14 c15 c16 c17 c18 c19 v8 =
 bif (decide (v8<(s.length:Int))) then
  (gi s v8).bind fun x =>
  (D8 c c1 c2 c3 c4 c5 c6 c7 c8 c9 c10 c11 c12 c13 c14 c15 c16 c17 c18 c19 x).bind fun c20 =>
  bif c20 then
   some (.inr v8)
  else
   AH n s c c1 c2 c3 c4 c5 c6 c7 c8 c9 c10 c11 c12 c13 c14 c15 c16 c17 c18 c19 (À (v8+1))
 else
  some (.inl ()):=by rw [AH]
def CB (n:Nat)(c:Ä)(c1:Int)(c2:Int)(c3:Int)(c4:Int)(c5:Int)(c6:Ä)(c7:(List Ag))(c8:Int)(c9:Int)(c10:Int)(c11:Ä)(c12:(List Ag))(c13:Int)(c14:Int)(c15:Int)(c16:Ä)(c17:(List Ag))(c18:Int)(c19:Int)(s:(List Ab)):Option Int :=
 ((AH n s c c1 c2 c3 c4 c5 c6 c7 c8 c9 c10 c11 c12 c13 c14 c15 c16 c17 c18 c19 0
 ):Option (Unit ⊕ Int)).bind fun y=>match y with
 |.inl _ =>
  some (-1)
 |.inr o=>some o
def Bw (n:Nat)(c:Ä)(c1:Int)(c2:Int)(c3:Int)(c4:Int)(c5:Int)(c6:Ä)(c7:(List Ag))(c8:Int)(c9:Int)(c10:Int)(c11:Ä)(c12:(List Ag))(c13:Int)(c14:Int)(c15:Int)(c16:Ä)(c17:(List Ag))(c18:Int)(c19:Int)(s:(List Ab)):Option Bool :=
 (CB n c c1 c2 c3 c4 c5 c6 c7 c8 c9 c10 c11 c12 c13 c14 c15 c16 c17 c18 c19 s).bind fun c20 =>
 some (decide (0<=c20))
def Eu (c:Ä)(c1:Int)(c2:Int)(c3:Int)(c4:Int)(c5:Int)(c6:Ä)(c7:(List Ag))(c8:Int)(c9:Int)(c10:Int)(c11:Ä)(c12:(List Ag))(c13:Int)(c14:Int)(c15:Int)(c16:Ä)(c17:(List Ag))(c18:Int)(c19:Int):Option Unit :=
 some ()
def AA:Nat->Ab->Int->Option (Unit ⊕ Int)
 |0,_,_=>none
 |n+1,x,v94 =>
  bif (v94 == 0) then
   (IX x.From).bind fun f2 =>
   bif (f2.2.2.E != 0) then
    some (.inr f2.2.2.E)
   else
    bif (f2.1 != 2) then
     some (.inr 7)
    else
     AA n x 1
  else
   bif (v94 == 1) then
    (IX x.To).bind fun f1 =>
    bif (f1.2.2.E != 0) then
     some (.inr f1.2.2.E)
    else
     bif (f1.1 != 2) then
      some (.inr 7)
     else
      AA n x 2
   else
    bif (v94 == 2) then
     (IX x.When).bind fun f =>
     bif (f.2.2.E != 0) then
      some (.inr f.2.2.E)
     else
      bif (f.1 != 3) then
       some (.inr 7)
      else
       AA n x 3
    else
     bif (v94 == 3) then
      some (.inl ())
     else
      none
theorem DF (n:Nat)(x:Ab)(v94:Int):AA (n+1) x v94 =
 bif (v94 == 0) then
  (IX x.From).bind fun f2 =>
  bif (f2.2.2.E != 0) then
   some (.inr f2.2.2.E)
  else
   bif (f2.1 != 2) then
    some (.inr 7)
   else
    AA n x 1
 else
  bif (v94 == 1) then
   (IX x.To).bind fun f1 =>
   bif (f1.2.2.E != 0) then
    some (.inr f1.2.2.E)
   else
    bif (f1.1 != 2) then
     some (.inr 7)
    else
     AA n x 2
  else
   bif (v94 == 2) then
    (IX x.When).bind fun f =>
    bif (f.2.2.E != 0) then
     some (.inr f.2.2.E)
    else
     bif (f.1 != 3) then
      some (.inr 7)
     else
      AA n x 3
   else
    bif (v94 == 3) then
     some (.inl ())
    else
     none:=by rw [AA]
def Cz:Nat->(List Ab)->Int->Option (Unit ⊕ Int)
 |0,_,_=>none
 |n+1,l,v20 =>
  bif (decide (v20<(l.length:Int))) then
   (gi l v20).bind fun x =>
   (Ey n x.Name).bind fun i =>
   bif (!i) then
    some (.inr 6)
   else
    (YK l 0 v20).bind fun l1 =>
    (Bw n x.Name x.Kind x.Rank x.Known x.From.Op x.From.N x.From.S x.From.Kids x.From.At x.To.Op x.To.N x.To.S x.To.Kids x.To.At x.When.Op x.When.N x.When.S x.When.Kids x.When.At x.Houses l1).bind fun c =>
    bif c then
     some (.inr 9)
    else
     ((bif (decide (x.Kind<1)) then
      some true
     else
      some (decide (3<x.Kind))
     ):Option Bool).bind fun v39 =>
      bif v39 then
       some (.inr 1)
      else
       ((bif (decide (x.Rank<0)) then
        some true
       else
        bif (decide (9<x.Rank)) then
         some true
        else
         bif (decide (x.Known<0)) then
          some true
         else
          bif (decide (41666<x.Known)) then
           some true
          else
           bif (!(x.Kind == 3)) then
            bif (x.Houses != 0) then
             some true
            else
             bif (x.Kind == 3) then
              bif (decide (x.Houses<1)) then
               some true
              else
               some (decide (4096<=x.Houses))
             else
              some false
           else
            bif (x.Kind == 3) then
             bif (decide (x.Houses<1)) then
              some true
             else
              some (decide (4096<=x.Houses))
            else
             some false
       ):Option Bool).bind fun v48 =>
        bif v48 then
         some (.inr 3)
        else
         (Eu x.Name x.Kind x.Rank x.Known x.From.Op x.From.N x.From.S x.From.Kids x.From.At x.To.Op x.To.N x.To.S x.To.Kids x.To.At x.When.Op x.When.N x.When.S x.When.Kids x.When.At x.Houses).bind fun w =>
         ((AA n x 0
         ):Option (Unit ⊕ Int)).bind fun y3=>match y3 with
         |.inl _ =>
          Cz n l (À (v20+1))
         |.inr o=>some (.inr o)
  else
   some (.inl ())
theorem Ha (n:Nat)(l:(List Ab))(v20:Int):Cz (n+1) l v20 =
 bif (decide (v20<(l.length:Int))) then
  (gi l v20).bind fun x =>
  (Ey n x.Name).bind fun i =>
  bif (!i) then
   some (.inr 6)
  else
   (YK l 0 v20).bind fun l1 =>
   (Bw n x.Name x.Kind x.Rank x.Known x.From.Op x.From.N x.From.S x.From.Kids x.From.At x.To.Op x.To.N x.To.S x.To.Kids x.To.At x.When.Op x.When.N x.When.S x.When.Kids x.When.At x.Houses l1).bind fun c =>
   bif c then
    some (.inr 9)
   else
    ((bif (decide (x.Kind<1)) then
     some true
    else
     some (decide (3<x.Kind))
    ):Option Bool).bind fun v39 =>
     bif v39 then
      some (.inr 1)
     else
      ((bif (decide (x.Rank<0)) then
       some true
      else
       bif (decide (9<x.Rank)) then
        some true
       else
        bif (decide (x.Known<0)) then
         some true
        else
         bif (decide (41666<x.Known)) then
          some true
         else
          bif (!(x.Kind == 3)) then
           bif (x.Houses != 0) then
            some true
           else
            bif (x.Kind == 3) then
             bif (decide (x.Houses<1)) then
              some true
             else
              some (decide (4096<=x.Houses))
            else
             some false
          else
           bif (x.Kind == 3) then
            bif (decide (x.Houses<1)) then
             some true
            else
             some (decide (4096<=x.Houses))
           else
            some false
      ):Option Bool).bind fun v48 =>
       bif v48 then
        some (.inr 3)
       else
        (Eu x.Name x.Kind x.Rank x.Known x.From.Op x.From.N x.From.S x.From.Kids x.From.At x.To.Op x.To.N x.To.S x.To.Kids x.To.At x.When.Op x.When.N x.When.S x.When.Kids x.When.At x.Houses).bind fun w =>
        ((AA n x 0
        ):Option (Unit ⊕ Int)).bind fun y3=>match y3 with
        |.inl _ =>
         Cz n l (À (v20+1))
        |.inr o=>some (.inr o)
 else
  some (.inl ()):=by rw [Cz]
def EX (n:Nat)(l:(List Ab)):Option Int :=
 bif (decide (40<(l.length:Int))) then
  some 2
 else
  (some ()).bind fun u =>
  ((Cz n l 0
  ):Option (Unit ⊕ Int)).bind fun y=>match y with
  |.inl _ =>
   some 0
  |.inr o=>some o
def EG (n:Nat)(c:Ab)(d:Al)(known:Int):Option (Int×Int×Bool×Int) :=
 (some [c]).bind fun l =>
 (EX n l).bind fun e =>
 bif (e != 0) then
  some (0,0,false,e)
 else
  (EW n d known).bind fun e1 =>
  bif (e1 != 0) then
   some (0,0,false,e1)
  else
   (some ()).bind fun u =>
   (((UQ c.From (Ah.mk d known)).bind fun from_1 =>
   (UQ c.To (Ah.mk d known)).bind fun to_1 =>
   bif (decide (c.Known<=known)) then
    (UQ c.When (Ah.mk d known)).bind fun v_ =>
    some (from_1,to_1,(v_ == 1))
   else
    some (from_1,to_1,false)
   ):Option (Int×Int×Bool)).bind fun y=>match y with
   |(from_,to_,applies) =>
    some (from_,to_,applies,0)
def Jg:Option (ByteArray×ByteArray×ByteArray×ByteArray) :=
 some (⟨#[]⟩,⟨#[107,101,101,112]⟩,⟨#[100,114,111,112]⟩,⟨#[112,108,97,99,101]⟩)
def EJ:Nat->(List Ä)->Ä->Int->Option (Unit ⊕ Int)
 |0,_,_,_=>none
 |n+1,s,v_,v8 =>
  bif (decide (v8<(s.length:Int))) then
   (gi s v8).bind fun x =>
   bif (decide (v_=x)) then
    some (.inr v8)
   else
    EJ n s v_ (À (v8+1))
  else
   some (.inl ())
def HJ (n:Nat)(s:(List Ä))(v_:Ä):Option Int :=
 ((EJ n s v_ 0
 ):Option (Unit ⊕ Int)).bind fun y=>match y with
 |.inl _ =>
  some (-1)
 |.inr o=>some o
def Fy:Nat->Az->(List Int)->Int->Option (Unit ⊕ (Int×Bool))
 |0,_,_,_=>none
 |n+1,f,want,v52 =>
  bif (decide (v52<(f.Args.length:Int))) then
   (gi f.Args v52).bind fun x =>
   (gi want (if (À ((want.length:Int)-1))<v52 then (À ((want.length:Int)-1)) else v52)).bind fun x1 =>
   bif (x.Kind != x1) then
    some (.inr (0,false))
   else
    Fy n f want (À (v52+1))
  else
   some (.inl ())
def Iy (n:Nat)(f:Az):Option (Int×Bool) :=
 (Jg).bind fun l =>
 (HJ n [l.2.1,l.2.2.1,l.2.2.2] f.Word).bind fun i =>
 (some [1,2,2,5,5,5]).bind fun l1 =>
 ((bif ((À (i+1)) == 3) then
  (some [4,2]).bind fun l2 =>
  (Cs 9 l1 l2).bind fun l3 =>
  some l3
 else
  some l1
 ):Option (List Int)).bind fun want =>
  ((bif ((À (i+1)) == 0) then
   some true
  else
   bif (decide (0<(f.Body.length:Int))) then
    some true
   else
    bif (decide ((f.Args.length:Int)<(want.length:Int))) then
     some true
    else
     bif ((À (i+1)) != 3) then
      some (decide ((want.length:Int)<(f.Args.length:Int)))
     else
      some false
  ):Option Bool).bind fun v48 =>
   bif v48 then
    some (0,false)
   else
    ((Fy n f want 0
    ):Option (Unit ⊕ (Int×Bool))).bind fun y2=>match y2 with
    |.inl _ =>
     some ((À (i+1)),true)
    |.inr o=>some o
def Fq (q:Int)(q1:Int)(p:Int)(p1:Int)(f:Ä)(f1:(List BD))(f2:(List Az))(f3:Int)(c:Ab):Option Bool :=
 (gi f1 0).bind fun x =>
 some (decide (c.Name=x.S))
def Ch:Nat->(List Ab)->Int->Int->Int->Int->Ä->(List BD)->(List Az)->Int->Int->Option (Unit ⊕ Int)
 |0,_,_,_,_,_,_,_,_,_,_=>none
 |n+1,s,q,q1,p,p1,f,f1,f2,f3,v8 =>
  bif (decide (v8<(s.length:Int))) then
   (gi s v8).bind fun x =>
   (Fq q q1 p p1 f f1 f2 f3 x).bind fun c =>
   bif c then
    some (.inr v8)
   else
    Ch n s q q1 p p1 f f1 f2 f3 (À (v8+1))
  else
   some (.inl ())
def DC (n:Nat)(q:Int)(q1:Int)(p:Int)(p1:Int)(f:Ä)(f1:(List BD))(f2:(List Az))(f3:Int)(s:(List Ab)):Option Int :=
 ((Ch n s q q1 p p1 f f1 f2 f3 0
 ):Option (Unit ⊕ Int)).bind fun y=>match y with
 |.inl _ =>
  some (-1)
 |.inr o=>some o
def CR (n:Nat)(q:Int)(q1:Int)(p:Int)(p1:Int)(f:Ä)(f1:(List BD))(f2:(List Az))(f3:Int)(s:(List Ab)):Option Bool :=
 (DC n q q1 p p1 f f1 f2 f3 s).bind fun c =>
 some (decide (0<=c))
def GK (q:Int)(q1:Int)(p:Int)(p1:Int)(f:Ä)(f1:(List BD))(f2:(List Az))(f3:Int)(c:Ä)(c1:Int)(c2:Int)(c3:Int)(c4:Int)(c5:Int)(c6:Ä)(c7:(List Ag))(c8:Int)(c9:Int)(c10:Int)(c11:Ä)(c12:(List Ag))(c13:Int)(c14:Int)(c15:Int)(c16:Ä)(c17:(List Ag))(c18:Int)(c19:Int):Option Unit :=
 some ()
def CG:Nat->BD->BD->BD->Int->Option (Unit ⊕ ((List Ab)×An))
 |0,_,_,_,_=>none
 |n+1,x5,x6,x7,v170 =>
  bif (v170 == 0) then
   (IX x5.E).bind fun f3 =>
   bif (f3.2.2.E != 0) then
    some (.inr ([],f3.2.2))
   else
    bif (f3.1 != 2) then
     some (.inr ([],(An.mk x5.At 7)))
    else
     CG n x5 x6 x7 1
  else
   bif (v170 == 1) then
    (IX x6.E).bind fun f2 =>
    bif (f2.2.2.E != 0) then
     some (.inr ([],f2.2.2))
    else
     bif (f2.1 != 2) then
      some (.inr ([],(An.mk x6.At 7)))
     else
      CG n x5 x6 x7 2
   else
    bif (v170 == 2) then
     (IX x7.E).bind fun f1 =>
     bif (f1.2.2.E != 0) then
      some (.inr ([],f1.2.2))
     else
      bif (f1.1 != 3) then
       some (.inr ([],(An.mk x7.At 7)))
      else
       CG n x5 x6 x7 3
    else
     bif (v170 == 3) then
      some (.inl ())
     else
      none
def D7:Nat->Az->Int->Int->Int->Option (Int ⊕ ((List Ab)×An))
 |0,_,_,_,_=>none
 |n+1,x,v103,last,c2 =>
  bif (decide (v103<(x.Args.length:Int))) then
   (gi x.Args v103).bind fun x8 =>
   ((bif (v103 == 1) then
    bif (decide (x8.N<0)) then
     some true
    else
     bif (decide (9<x8.N)) then
      some true
     else
      bif (v103 == 2) then
       bif (decide (x8.N<0)) then
        some true
       else
        bif (decide (41666<x8.N)) then
         some true
        else
         bif (decide (6<v103)) then
          bif (decide (x8.N<=last)) then
           some true
          else
           some (decide (12<=x8.N))
         else
          some false
      else
       bif (decide (6<v103)) then
        bif (decide (x8.N<=last)) then
         some true
        else
         some (decide (12<=x8.N))
       else
        some false
   else
    bif (v103 == 2) then
     bif (decide (x8.N<0)) then
      some true
     else
      bif (decide (41666<x8.N)) then
       some true
      else
       bif (decide (6<v103)) then
        bif (decide (x8.N<=last)) then
         some true
        else
         some (decide (12<=x8.N))
       else
        some false
    else
     bif (decide (6<v103)) then
      bif (decide (x8.N<=last)) then
       some true
      else
       some (decide (12<=x8.N))
     else
      some false
   ):Option Bool).bind fun odd =>
    bif odd then
     some (.inr ([],(An.mk x8.At 3)))
    else
     bif (decide (6<v103)) then
      (gnn x8.N (À (1*2 ^ min x8.N.toNat IntKind.i64.bits))).bind fun q =>
      D7 n x (À (v103+1)) x8.N (bits .or .i64 c2 q)
     else
      D7 n x (À (v103+1)) last c2
  else
   some (.inl c2)
def EH:Nat->((List Az)×An)->(List Ab)->Int->Option ((List Ab) ⊕ ((List Ab)×An))
 |0,_,_,_=>none
 |n+1,f,out1,v36 =>
  bif (decide (v36<(f.1.length:Int))) then
   (gi f.1 v36).bind fun x =>
   (Iy n x).bind fun s =>
   bif (!s.2) then
    some (.inr ([],(An.mk x.At 5)))
   else
    bif ((out1.length:Int) == 40) then
     some (.inr ([],(An.mk x.At 2)))
    else
     (CR n 0 0 f.2.At f.2.E x.Word x.Args x.Body x.At out1).bind fun c =>
     bif c then
      (gi x.Args 0).bind fun x1 =>
      some (.inr ([],(An.mk x1.At 9)))
     else
      (gi x.Args 0).bind fun x2 =>
      (gi x.Args 1).bind fun x3 =>
      (gi x.Args 2).bind fun x4 =>
      (gi x.Args 3).bind fun x5 =>
      (gi x.Args 4).bind fun x6 =>
      (gi x.Args 5).bind fun x7 =>
      ((D7 n x 0 (-1) 0
      ):Option (Int ⊕ ((List Ab)×An))).bind fun y1=>match y1 with
      |.inl c1 =>
       (GK 0 0 f.2.At f.2.E x.Word x.Args x.Body x.At x2.S s.1 x3.N x4.N x5.E.Op x5.E.N x5.E.S x5.E.Kids x5.E.At x6.E.Op x6.E.N x6.E.S x6.E.Kids x6.E.At x7.E.Op x7.E.N x7.E.S x7.E.Kids x7.E.At c1).bind fun w =>
       ((CG n x5 x6 x7 0
       ):Option (Unit ⊕ ((List Ab)×An))).bind fun y2=>match y2 with
       |.inl _ =>
        (some [(Ab.mk x2.S s.1 x3.N x4.N x5.E x6.E x7.E c1)]).bind fun l =>
        (Cs 241 out1 l).bind fun l1 =>
        EH n f l1 (À (v36+1))
       |.inr o=>some (.inr o)
      |.inr o=>some (.inr o)
  else
   some (.inl out1)
def HI (n:Nat)(src:Ä):Option ((List Ab)×An) :=
 (Lh n src).bind fun f =>
 bif (f.2.E != 0) then
  some ([],f.2)
 else
  (some ()).bind fun u =>
  ((EH n f [] 0
  ):Option ((List Ab) ⊕ ((List Ab)×An))).bind fun y=>match y with
  |.inl out =>
   some (out,(An.mk 0 0))
  |.inr o=>some o
def I5 (c:Ab)(k:Int):Option Ag :=
 bif (k == 0) then
  some c.From
 else
  bif (k == 1) then
   some c.To
  else
   some c.When
mutual
def C4:Nat->Ag->Int->Int->Option Int
 |0,_,_,_=>none
 |n+1,e,n_2,k =>
  ((bif (decide (k<(e.Kids.length:Int))) then
   some (decide (0<=n_2))
  else
   some false
  ):Option Bool).bind fun v16 =>
   bif v16 then
    (gi e.Kids k).bind fun x =>
    (BR n x n_2).bind fun n_3 =>
    C4 n e n_3 (À (k+1))
   else
    some n_2
def BR:Nat->Ag->Int->Option Int
 |0,_,_=>none
 |n+1,e,n_ =>
  ((C4 n e (À (n_-1)) 0
  ):Option Int).bind fun n_1 =>
   some n_1
end
theorem Gp (n:Nat)(e:Ag)(n_2:Int)(k:Int):C4 (n+1) e n_2 k =
 ((bif (decide (k<(e.Kids.length:Int))) then
  some (decide (0<=n_2))
 else
  some false
 ):Option Bool).bind fun v16 =>
  bif v16 then
   (gi e.Kids k).bind fun x =>
   (BR n x n_2).bind fun n_3 =>
   C4 n e n_3 (À (k+1))
  else
   some n_2:=by rw [C4]
theorem OR (n:Nat)(e:Ag)(n_:Int):BR (n+1) e n_ =
 ((C4 n e (À (n_-1)) 0
 ):Option Int).bind fun n_1 =>
  some n_1:=by rw [BR]
def BT:Nat->(List Ab)->Int->Int->Int->Option Int
 |0,_,_,_,_=>none
 |n+1,l,i,n_4,k =>
  ((bif (decide (k<3)) then
   some (decide (0<=n_4))
  else
   some false
  ):Option Bool).bind fun v25 =>
   bif v25 then
    (gi l i).bind fun x =>
    (I5 x k).bind fun p =>
    (BR n p n_4).bind fun n_5 =>
    BT n l i n_5 (À (k+1))
   else
    some n_4
theorem GN (n:Nat)(l:(List Ab))(i:Int)(n_4:Int)(k:Int):BT (n+1) l i n_4 k =
 ((bif (decide (k<3)) then
  some (decide (0<=n_4))
 else
  some false
 ):Option Bool).bind fun v25 =>
  bif v25 then
   (gi l i).bind fun x =>
   (I5 x k).bind fun p =>
   (BR n p n_4).bind fun n_5 =>
   BT n l i n_5 (À (k+1))
  else
   some n_4:=by rw [BT]
def Du:Nat->(List Ab)->Int->Int->Option Int
 |0,_,_,_=>none
 |n+1,l,n_2,i =>
  ((bif (decide (i<(l.length:Int))) then
   some (decide (0<=n_2))
  else
   some false
  ):Option Bool).bind fun v17 =>
   bif v17 then
    ((BT n l i n_2 0
    ):Option Int).bind fun n_3 =>
     Du n l n_3 (À (i+1))
   else
    some n_2
theorem GO (n:Nat)(l:(List Ab))(n_2:Int)(i:Int):Du (n+1) l n_2 i =
 ((bif (decide (i<(l.length:Int))) then
  some (decide (0<=n_2))
 else
  some false
 ):Option Bool).bind fun v17 =>
  bif v17 then
   ((BT n l i n_2 0
   ):Option Int).bind fun n_3 =>
    Du n l n_3 (À (i+1))
  else
   some n_2:=by rw [Du]
def J0 (n:Nat)(l:(List Ab))(n_:Int):Option Bool :=
 bif (decide (50<(l.length:Int))) then
  some false
 else
  ((Du n l n_ 0
  ):Option Int).bind fun n_1 =>
   some (decide (0<=n_1))
abbrev hC (l:List Ab):PV:=hP l Bz
abbrev oC (l:List Ab):PV:=oP l Bz
end Go.Sp
namespace Go.Proofs.YtehfpameijkafaaGreatDoor
open Go.ChangeShapes Go.WideShapes Go.ChangeAt Go.RowKit Go.Q Go.Vl Go.Sp
set_option maxRecDepth 100000
abbrev UC (w:World):Nat->Nat->Prop:=fun b i=>(w.cell? ⟨b,i,none⟩).isSome=true
def Row (w:World)(r:List PV)(cs:List Value):Prop:=cs.length=r.length/\∀ j (hj:j<r.length),∃ u,cs[j]?=some u/\u.oneCell'=true/\∀ φ,V w (UC w) φ r[j] u
theorem Row.nil {w:World}:Row w [] []:=⟨rfl,fun j hj=>absurd hj (by simp)⟩
theorem Row.cons {w:World}{p:PV}{r:List PV}{u:Value}{cs:List Value}(h1:u.oneCell'=true)(h:∀ φ,V w (UC w) φ p u)(k:Row w r cs):Row w (p::r) (u::cs):=by
 refine⟨by simp [k.1],fun j hj=>?_⟩
 cases j with
 |zero=>exact⟨u,rfl,h1,h⟩
 |succ j=>exact k.2 j (by simpa using hj)
theorem Sx {H:Type}{enc:TypeId×Value->H}{w:World}{held:Bool}{fuel:Nat}{t e:TypeId}{sz:Nat}{cs:List Value}{x:DataW H×List MemPlace}{α:Type}(row:α->List PV)(R:α->Prop)
 (ht:Tryz.prog.underlying t=some (.slice e)) (hsz:Tryz.prog.cellsOf e=sz) (h0:0<sz) (hr:∀ y,(row y).length=sz)
 (hel:∀ n cs x,n<fuel->DataW.trod enc Tryz.prog w 0 (fun _=>true) held n e cs=some x->∃ y,R y/\Row w (row y) cs)
 (h:DataW.trod enc Tryz.prog w 0 (fun _=>true) held fuel t cs=some x) :
 ∃ (l:List α) (v:Value),cs=[v]/\v.oneCell'=true/\(∀ φ,V w (UC w) φ (.sl (l.map row) .shared) v)/\(∀ y∈l,R y)/\l.length<=9223372036854775807:=by
 rcases DataW.trod_slice ht h with⟨e0,_⟩|⟨a,len,cap,elems,rest,n,hn,e0,_,_,hlc,hcm,hel2,hi,hsp,_⟩
 . exact⟨[],_,e0,rfl,fun φ=>.nil _ _,by simp,by simp⟩
 . have hm:cap<=9223372036854775807:=by unfold maxLen at hcm;exact hcm
   rw [hsz] at hi hsp
   obtain⟨b,o,sp⟩:=a
   have key:∀ i,i<len->∃ y,R y/\∃ cs,Row w (row y) cs/\∀ j,j<sz->w.cell? (((Addr.mk b o sp).add (i*sz)).add j)=cs[j]?:=fun i hil=>by
    have h1:=hi i hil
    rw [Ã (by omega)] at h1
    obtain⟨cs,hc,hd⟩:=Option.bind_eq_some_iff.1 h1
    obtain⟨_,_,hcell⟩:=World.cells?_some hc
    obtain⟨y,hy,hrow⟩:=hel n cs _ (by omega) hd
    exact⟨y,hy,cs,hrow,hcell⟩
   have hsp0:0<len->sp=none:=fun hl=>by
    obtain⟨y,_,cs,hrow,hc⟩:=key 0 hl
    obtain⟨u,hu,_⟩:=hrow.2 0 (by rw [hr];exact h0)
    have:=World.cell?_spot ((hc 0 h0).trans hu)
    simpa [Addr.add] using this
   have hsp1:sp≠none->cap=0:=fun hne=>by
    rcases Nat.eq_zero_or_pos cap with e|e
    . exact e
    . exfalso
      rcases Nat.eq_zero_or_pos len with e1|e1
      . subst e1
        obtain⟨k1,k2⟩:=hsp rfl
        have k3:=k2 0 (by omega)
        rw [Ã (by omega)] at k3
        obtain⟨cs,hc,_⟩:=Option.bind_eq_some_iff.1 k3
        obtain⟨_,hlen,hcell⟩:=World.cells?_some hc
        have k4:=hcell 0 h0
        rw [Ã (by omega)] at k4
        have:=World.cell?_spot k4
        exact hne (by simpa [Addr.add] using this)
      . exact hne (hsp0 e1)
   cases sp with
   |some k =>
    have hc0:=hsp1 (by simp)
    have hl0:len=0:=by omega
    subst hc0 hl0
    exact⟨[],_,e0,rfl,fun φ=>.emp _ _ _ _ _ (by simp),by simp,by simp⟩
   |none =>
    have hlen:(List.ofFn (fun i:Fin len=>(key i i.isLt).choose)).length=len:=by simp
    refine⟨List.ofFn (fun i:Fin len=>(key i i.isLt).choose),_,e0,rfl,fun φ=>?_,fun y hy=>?_,by rw [hlen];omega⟩
    . have hget:∀ i (hi:i<((List.ofFn (fun i:Fin len=>(key i i.isLt).choose)).map row).length) (hi2:i<len),((List.ofFn (fun i:Fin len=>(key i i.isLt).choose)).map row)[i]=row (key i hi2).choose:=fun i hi hi2=>by simp
      have hcell:∀ i j (hi:i<len),j<sz->∃ u,w.cell? ⟨b,o+i*sz+j,none⟩=some u/\u.oneCell'=true/\∀ (hj:j<(row (key i hi).choose).length) φ,V w (UC w) φ (row (key i hi).choose)[j] u:=fun i j hi hj=>by
       obtain⟨_,cs,hrow,hc⟩:=(key i hi).choose_spec
       obtain⟨u,hu,h1,hv⟩:=hrow.2 j (by rw [hr];exact hj)
       refine⟨u,?_,h1,fun _=>hv⟩
       have:=(hc j hj).trans hu
       rw [WZ,WZ] at this
       exact this
      have hlm:((List.ofFn (fun i:Fin len=>(key i i.isLt).choose)).map row).length=len:=by simp
      have key2:=V.sl (w:=w) (U:=UC w) φ ((List.ofFn (fun i:Fin len=>(key i i.isLt).choose)).map row) .shared b o sz cap (fun i j=>(w.cell? ⟨b,o+i*sz+j,none⟩).getD Go.undef)
       (by rw [hlm];exact hlc) hm (fun i hi=>by rw [hget i hi (by rw [hlm] at hi;exact hi),hr])
       (fun i j hi hj=>by rw [hlm] at hi;obtain⟨u,hu,_⟩:=hcell i j hi hj;show (w.cell? ⟨b,o+i*sz+j,none⟩).isSome=true;rw [hu];rfl)
       (fun i j hi hj=>by rw [hlm] at hi;obtain⟨u,hu,_⟩:=hcell i j hi hj;rw [hu];rfl)
       (fun i j hi hj=>by rw [hlm] at hi;obtain⟨u,hu,h1,_⟩:=hcell i j hi hj;simp only [hu,Option.getD_some];exact h1)
       (fun i hi j hj=>by
        have hi2:i<len:=by rw [hlm] at hi;exact hi
        have hj2:j<sz:=by rw [hget i hi hi2,hr] at hj;exact hj
        obtain⟨u,hu,_,hv⟩:=hcell i j hi2 hj2
        simp only [hu,Option.getD_some,hget i hi hi2]
        exact hv (by rw [hr];exact hj2) [])
       (by simp) (by simp)
      rw [hlm] at key2
      exact key2
    . obtain⟨i,rfl⟩:=List.mem_ofFn.1 hy
      exact (key i i.isLt).choose_spec.1
theorem Y1 {H:Type}{enc:TypeId×Value->H}{w:World}{held:Bool}:∀ (fuel:Nat) {cs:List Value} {x:DataW H×List MemPlace},DataW.trod enc Tryz.prog w 0 (fun _=>true) held fuel 64 cs=some x->∃ y:Ag,Row w (Bf y) cs:=by
 have c24:Tryz.prog.cellsOf 64=5:=by kernel_rfl
 have c3:Tryz.prog.cellsOf 3=1:=by kernel_rfl
 have c9:Tryz.prog.cellsOf 9=1:=by kernel_rfl
 have c22:Tryz.prog.cellsOf 62=1:=by kernel_rfl
 intro fuel
 induction fuel using Nat.strongRecOn with
 |ind fuel ih =>
 intro cs x h
 obtain⟨xs,n,hn,rfl,hl,hxl,hf⟩:=DataW.trod_struct Tryz.underlying64 h
 rw [c24] at hl
 match cs,hl with
 | [v0,v1,v2,v3,v4],_ =>
  have hx4:xs.length=5:=hxl
  have f0:DataW.trod enc Tryz.prog w 0 (fun _=>true) held n 3 (List.take (Tryz.prog.cellsOf 3) [v0,v1,v2,v3,v4])=xs[0]?:=hf 0 _ rfl
  have f1:DataW.trod enc Tryz.prog w 0 (fun _=>true) held n 3 (List.take (Tryz.prog.cellsOf 3) [v1,v2,v3,v4])=xs[1]?:=hf 1 _ rfl
  have f2:DataW.trod enc Tryz.prog w 0 (fun _=>true) held n 9 (List.take (Tryz.prog.cellsOf 9) [v2,v3,v4])=xs[2]?:=hf 2 _ rfl
  have f3:DataW.trod enc Tryz.prog w 0 (fun _=>true) held n 62 (List.take (Tryz.prog.cellsOf 62) [v3,v4])=xs[3]?:=hf 3 _ rfl
  have f4:DataW.trod enc Tryz.prog w 0 (fun _=>true) held n 3 (List.take (Tryz.prog.cellsOf 3) [v4])=xs[4]?:=hf 4 _ rfl
  rw [c3] at f0 f1 f4
  rw [c9] at f2
  rw [c22] at f3
  simp only [Ģ,List.take_zero] at f0 f1 f2 f3 f4
  rw [Ã (by omega)] at f0 f1 f2 f3 f4
  obtain⟨k0,e0,_,_⟩:=ā Tryz.underlying3 f0
  obtain⟨k1,e1,_,_⟩:=ā Tryz.underlying3 f1
  obtain⟨s,e2,_,_⟩:=DataW.trod_string Tryz.underlying9 f2
  obtain⟨l,u,e3,hu,hV,_,_⟩:=Sx Bf (fun _=>True) Tryz.underlying62 c24 (by decide) Jw (fun m cs x hm h=>by obtain⟨y,hy⟩:=ih m (by omega) h;exact⟨y,trivial,hy⟩) f3
  obtain⟨k4,e4,_,_⟩:=ā Tryz.underlying3 f4
  simp only [List.cons.injEq,and_true] at e0 e1 e2 e3 e4
  subst e0 e1 e2 e3 e4
  refine⟨⟨k0,k1,s,l,k4⟩,?_⟩
  rw [Gi]
  exact .cons rfl (fun φ=>.lit _ _) (.cons rfl (fun φ=>.lit _ _) (.cons rfl (fun φ=>.lit _ _) (.cons hu hV (.cons rfl (fun φ=>.lit _ _) .nil))))
theorem Aaq {w:World}{r:List PV}{cs:Array Value}(hy:Row w r cs.toList):∀ φ,V w (UC w) φ (.agg r) (.agg cs):=by
 have hl:cs.size=r.length:=by have:=hy.1;simpa using this
 refine fun φ=>.agg _ _ _ hl (fun i hi=>?_) (fun i hi=>?_)
 . obtain⟨u,h1,_,h2⟩:=hy.2 i hi
   have e:cs.getD i Go.undef=u:=by
    rw [ć] at h1
    rw [É,h1];rfl
   rw [e];exact h2 φ
 . obtain⟨u,h1,h3,_⟩:=hy.2 i (by rw [hl] at hi;exact hi)
   have e:cs.getD i Go.undef=u:=by
    rw [ć] at h1
    rw [É,h1];rfl
   rw [e];exact h3
theorem Y0 {H:Type}{enc:TypeId×Value->H}{w:World}{held:Bool}{fuel:Nat}{cs:List Value}{x:DataW H×List MemPlace}(h:DataW.trod enc Tryz.prog w 0 (fun _=>true) held fuel 73 cs=some x):∃ y:BA,Row w (Ds y) cs:=by
 have c59:Tryz.prog.cellsOf 73=4:=by kernel_rfl
 have c3:Tryz.prog.cellsOf 3=1:=by kernel_rfl
 obtain⟨xs,n,hn,rfl,hl,hxl,hf⟩:=DataW.trod_struct Tryz.underlying73 h
 rw [c59] at hl
 match cs,hl with
 | [v0,v1,v2,v3],_ =>
  have hx4:xs.length=4:=hxl
  have f0:DataW.trod enc Tryz.prog w 0 (fun _=>true) held n 3 (List.take (Tryz.prog.cellsOf 3) [v0,v1,v2,v3])=xs[0]?:=hf 0 _ rfl
  have f1:DataW.trod enc Tryz.prog w 0 (fun _=>true) held n 3 (List.take (Tryz.prog.cellsOf 3) [v1,v2,v3])=xs[1]?:=hf 1 _ rfl
  have f2:DataW.trod enc Tryz.prog w 0 (fun _=>true) held n 3 (List.take (Tryz.prog.cellsOf 3) [v2,v3])=xs[2]?:=hf 2 _ rfl
  have f3:DataW.trod enc Tryz.prog w 0 (fun _=>true) held n 3 (List.take (Tryz.prog.cellsOf 3) [v3])=xs[3]?:=hf 3 _ rfl
  rw [c3] at f0 f1 f2 f3
  simp only [Ģ,List.take_zero] at f0 f1 f2 f3
  rw [Ã (by omega)] at f0 f1 f2 f3
  obtain⟨k0,e0,_,_⟩:=ā Tryz.underlying3 f0
  obtain⟨k1,e1,_,_⟩:=ā Tryz.underlying3 f1
  obtain⟨k2,e2,_,_⟩:=ā Tryz.underlying3 f2
  obtain⟨k3,e3,_,_⟩:=ā Tryz.underlying3 f3
  simp only [List.cons.injEq,and_true] at e0 e1 e2 e3
  subst e0 e1 e2 e3
  refine⟨⟨k0,k1,k2,k3⟩,?_⟩
  rw [Ky]
  exact .cons rfl (fun φ=>.lit _ _) (.cons rfl (fun φ=>.lit _ _) (.cons rfl (fun φ=>.lit _ _) (.cons rfl (fun φ=>.lit _ _) .nil)))
theorem TN {H:Type}{enc:TypeId×Value->H}{w:World}{held:Bool}{fuel:Nat}{cs:Array Value}{x:DataW H×List MemPlace}(h:DataW.trod enc Tryz.prog w 0 (fun _=>true) held fuel 25 (Value.agg cs).cells.toList=some x) :
 ∃ y:Al,(∀ φ,V w (UC w) φ (.agg (HL y)) (.agg cs))/\y.Facts.length<=9223372036854775807:=by
 have c29:Tryz.prog.cellsOf 25=3:=by kernel_rfl
 have c59:Tryz.prog.cellsOf 73=4:=by kernel_rfl
 have c3:Tryz.prog.cellsOf 3=1:=by kernel_rfl
 have c27:Tryz.prog.cellsOf 23=1:=by kernel_rfl
 have h:DataW.trod enc Tryz.prog w 0 (fun _=>true) held fuel 25 cs.toList=some x:=h
 obtain⟨xs,n,hn,rfl,hl,hxl,hf⟩:=DataW.trod_struct Tryz.underlying25 h
 rw [c29] at hl
 match hcs:cs.toList,hl with
 | [v0,v1,v2],_ =>
  rw [hcs] at hf
  have hx4:xs.length=3:=hxl
  have f0:DataW.trod enc Tryz.prog w 0 (fun _=>true) held n 23 (List.take (Tryz.prog.cellsOf 23) [v0,v1,v2])=xs[0]?:=hf 0 _ rfl
  have f1:DataW.trod enc Tryz.prog w 0 (fun _=>true) held n 3 (List.take (Tryz.prog.cellsOf 3) [v1,v2])=xs[1]?:=hf 1 _ rfl
  have f2:DataW.trod enc Tryz.prog w 0 (fun _=>true) held n 3 (List.take (Tryz.prog.cellsOf 3) [v2])=xs[2]?:=hf 2 _ rfl
  rw [c27] at f0
  rw [c3] at f1 f2
  simp only [Ģ,List.take_zero] at f0 f1 f2
  rw [Ã (by omega)] at f0 f1 f2
  obtain⟨l,u,e0,hu,hV,_,hlen⟩:=Sx Ds (fun _=>True) Tryz.underlying23 c59 (by decide) Jv (fun m cs x hm h=>by obtain⟨y,hy⟩:=Y0 h;exact⟨y,trivial,hy⟩) f0
  obtain⟨k1,e1,_,_⟩:=ā Tryz.underlying3 f1
  obtain⟨k2,e2,_,_⟩:=ā Tryz.underlying3 f2
  simp only [List.cons.injEq,and_true] at e0 e1 e2
  subst e0 e1 e2
  refine⟨⟨l,k1,k2⟩,Aaq ?_,hlen⟩
  rw [hcs,I2]
  exact .cons hu hV (.cons rfl (fun φ=>.lit _ _) (.cons rfl (fun φ=>.lit _ _) .nil))
theorem PQ {w:World}{r:Reach}{b0:Nat}{v:Value}(h:Value.okWide Tryz.prog w r b0 25 v):∃ cs,v=.agg cs:=by
 unfold Value.okWide at h
 rw [Tryz.underlying25] at h
 obtain⟨cs,e,_⟩:=h
 exact⟨cs,e⟩
theorem TP {H:Type}{enc:TypeId×Value->H}{w:World}{held:Bool}{fuel:Nat}{cs:List Value}{x:DataW H×List MemPlace}(h:DataW.trod enc Tryz.prog w 0 (fun _=>true) held fuel 66 cs=some x):∃ y:Ab,Row w (Bz y) cs:=by
 have c26:Tryz.prog.cellsOf 66=20:=by kernel_rfl
 have c24:Tryz.prog.cellsOf 64=5:=by kernel_rfl
 have c3:Tryz.prog.cellsOf 3=1:=by kernel_rfl
 have c9:Tryz.prog.cellsOf 9=1:=by kernel_rfl
 obtain⟨xs,n,hn,rfl,hl,hxl,hf⟩:=DataW.trod_struct Tryz.underlying66 h
 rw [c26] at hl
 match cs,hl with
 | [a0,a1,a2,a3,b0,b1,b2,b3,b4,u0,u1,u2,u3,u4,d0,d1,d2,d3,d4,a7],_ =>
  have hx4:xs.length=8:=hxl
  have f0:DataW.trod enc Tryz.prog w 0 (fun _=>true) held n 9 (List.take (Tryz.prog.cellsOf 9) [a0,a1,a2,a3,b0,b1,b2,b3,b4,u0,u1,u2,u3,u4,d0,d1,d2,d3,d4,a7])=xs[0]?:=hf 0 _ rfl
  have f1:DataW.trod enc Tryz.prog w 0 (fun _=>true) held n 3 (List.take (Tryz.prog.cellsOf 3) [a1,a2,a3,b0,b1,b2,b3,b4,u0,u1,u2,u3,u4,d0,d1,d2,d3,d4,a7])=xs[1]?:=hf 1 _ rfl
  have f2:DataW.trod enc Tryz.prog w 0 (fun _=>true) held n 3 (List.take (Tryz.prog.cellsOf 3) [a2,a3,b0,b1,b2,b3,b4,u0,u1,u2,u3,u4,d0,d1,d2,d3,d4,a7])=xs[2]?:=hf 2 _ rfl
  have f3:DataW.trod enc Tryz.prog w 0 (fun _=>true) held n 3 (List.take (Tryz.prog.cellsOf 3) [a3,b0,b1,b2,b3,b4,u0,u1,u2,u3,u4,d0,d1,d2,d3,d4,a7])=xs[3]?:=hf 3 _ rfl
  have f4:DataW.trod enc Tryz.prog w 0 (fun _=>true) held n 64 (List.take (Tryz.prog.cellsOf 64) [b0,b1,b2,b3,b4,u0,u1,u2,u3,u4,d0,d1,d2,d3,d4,a7])=xs[4]?:=hf 4 _ rfl
  have f5:DataW.trod enc Tryz.prog w 0 (fun _=>true) held n 64 (List.take (Tryz.prog.cellsOf 64) [u0,u1,u2,u3,u4,d0,d1,d2,d3,d4,a7])=xs[5]?:=hf 5 _ rfl
  have f6:DataW.trod enc Tryz.prog w 0 (fun _=>true) held n 64 (List.take (Tryz.prog.cellsOf 64) [d0,d1,d2,d3,d4,a7])=xs[6]?:=hf 6 _ rfl
  have f7:DataW.trod enc Tryz.prog w 0 (fun _=>true) held n 3 (List.take (Tryz.prog.cellsOf 3) [a7])=xs[7]?:=hf 7 _ rfl
  rw [c9] at f0
  rw [c3] at f1 f2 f3 f7
  rw [c24] at f4 f5 f6
  simp only [Ģ,List.take_zero] at f0 f1 f2 f3 f4 f5 f6 f7
  rw [Ã (by omega)] at f0 f1 f2 f3 f4 f5 f6 f7
  obtain⟨s,e0,_,_⟩:=DataW.trod_string Tryz.underlying9 f0
  obtain⟨k1,e1,_,_⟩:=ā Tryz.underlying3 f1
  obtain⟨k2,e2,_,_⟩:=ā Tryz.underlying3 f2
  obtain⟨k3,e3,_,_⟩:=ā Tryz.underlying3 f3
  obtain⟨y4,r4⟩:=Y1 n f4
  obtain⟨y5,r5⟩:=Y1 n f5
  obtain⟨y6,r6⟩:=Y1 n f6
  obtain⟨k7,e7,_,_⟩:=ā Tryz.underlying3 f7
  simp only [List.cons.injEq,and_true] at e0 e1 e2 e3 e7
  subst e0 e1 e2 e3 e7
  refine⟨⟨s,k1,k2,k3,y4,y5,y6,k7⟩,?_⟩
  rw [Gi] at r4 r5 r6
  rw [IU]
  have one:∀ {p q r t u:PV} {a b c d e:Value} {R:List PV} {C:List Value},Row w [p,q,r,t,u] [a,b,c,d,e]->Row w R C->Row w (p::q::r::t::u::R) (a::b::c::d::e::C):=fun {p q r t u a b c d e R C} g k=>by
   have g:∀ (j:Nat) (hj:j<5),∃ z,[a,b,c,d,e][j]?=some z/\z.oneCell'=true/\∀ φ,V w (UC w) φ ([p,q,r,t,u][j]'hj) z:=g.2
   obtain⟨_,h0,p0,q0⟩:=g 0 (by decide)
   obtain⟨_,h1,p1,q1⟩:=g 1 (by decide)
   obtain⟨_,h2,p2,q2⟩:=g 2 (by decide)
   obtain⟨_,h3,p3,q3⟩:=g 3 (by decide)
   obtain⟨_,h4,p4,q4⟩:=g 4 (by decide)
   obtain rfl:=Af h0
   obtain rfl:=Af h1
   obtain rfl:=Af h2
   obtain rfl:=Af h3
   obtain rfl:=Af h4
   exact .cons p0 q0 (.cons p1 q1 (.cons p2 q2 (.cons p3 q3 (.cons p4 q4 k))))
  exact .cons rfl (fun φ=>.lit _ _) (.cons rfl (fun φ=>.lit _ _) (.cons rfl (fun φ=>.lit _ _) (.cons rfl (fun φ=>.lit _ _) (one r4 (one r5 (one r6 (.cons rfl (fun φ=>.lit _ _) .nil)))))))
theorem Aa1 {w:World}{f:Nat}{ps:List PV}{vs:Array Value}(hvc:VC Tryz.prog f ps [] fun x σ'=>x=.ret (.lit (.bool true))/\σ'=[])(hn:vs.size=ps.length)(hv:∀ i (hi:i<ps.length),V w (UC w) [] ps[i] (vs.getD i Go.undef))(hg:Qm w)(hb:∀ b∈V6,b<w.heap.size) :
 Calls Tryz.prog f vs w fun e w'=>e=.returned (.bool true)/\Below w.heap.size w w':=by
 refine (hvc.out (U:=UC w) (vs:=vs) hg hb (fun b i hu=>?_) hn fun i hi=>hv i hi).mono fun e w' hpost=>?_
 . obtain⟨u,hu⟩:=Option.isSome_iff_exists.1 hu
   exact World.block_lt_of_cell? _ _ hu
 . obtain⟨⟨x,σ',G',⟨rfl,_⟩,v,h1,h2,_⟩,h3⟩:=hpost
   refine⟨?_,h3⟩
   have key:∀ {p:PV} {v:Value},V w' G'.U G'.φ p v->p=.lit (.bool true)->v=.bool true:=fun h e=>by
    cases h with
    |lit _ _=>injection e
    |_=>cases e
   rw [key h2 rfl] at h1;exact h1
end Go.Proofs.YtehfpameijkafaaGreatDoor
namespace Go.Proofs.YtehfpameijkafaaGreatDoor
open Go.ChangeShapes Go.WideShapes Go.ChangeAt Go.RowKit Go.Q Go.Vl Go.Sp
set_option maxRecDepth 100000
theorem TO {H:Type}{enc:TypeId×Value->H}{w:World}{held:Bool}{fuel:Nat}{v:Value}{x:DataW H×List MemPlace}(hv:v.cells.toList=[v])(h:DataW.trod enc Tryz.prog w 0 (fun _=>true) held fuel 22 v.cells.toList=some x) :
 ∃ l:List Ab,∀ φ,V w (UC w) φ (hC l) v:=by
 have c26:Tryz.prog.cellsOf 66=20:=by kernel_rfl
 rw [hv] at h
 obtain⟨l,u,e,_,q,g,r⟩:=Sx Bz (fun _=>True) Tryz.underlying22 c26 (by decide) I3 (fun m cs x hm h=>by obtain⟨y,hy⟩:=TP h;exact⟨y,trivial,hy⟩) h
 obtain rfl:v=u:=by simpa using e
 exact⟨l,q⟩
end Go.Proofs.YtehfpameijkafaaGreatDoor

namespace Go.Vl
open Go Go.RowKit
def setL (st:St):Loc->PV->St
 |.tmp t,p=>st.put (some t) p
 |.cell k j,p=>{ st with σ:=st.σ.set k ((st.σ.getD k []).set j p) }
 |_,_=>st
def NU:Loc->Bool
 |.tmp _=>true
 |.cell _ _=>true
 |_=>false
def Xe (w:World)(G:Gh)(tm:Nat->Value):Loc->Value->Prop
 |.tmp t,v=>tm t=v
 |.cell k j,v=>∃ b,G.φ[k]?=some b/\w.cell? ⟨b,j,none⟩=some v
 |_,_=>False
def Ra:PV->Bool
 |.undef=>true
 |.asl _ _ _ _=>true
 |.prv _=>true
 |.sl _ .own=>true
 |.sl _ .shared=>true
 |_=>false
def DE (xs:List (List Value))(m:Nat):List PV:=xs.flatten.map .lit++List.replicate m .undef
section
variable {w w0:World} {G G0:Gh} {st:St} {tm:Nat->Value} {l:Loc} {p:PV} {v:Value}
theorem Inv.getL {xs:List (List Value)}(h:Inv w0 G0 st tm w G)(hl:NU l=true)(hc:AW st l=.prv xs):∃ v,Xe w G tm l v/\V w G.U G.φ (.prv xs) v/\BE w G l xs v:=by
 cases l with
 |tmp t =>
  have hg:st.get t=.prv xs:=hc
  have hv:=h.env.v t
  have ht:=h.env.tag t
  rw [hg] at hv ht
  exact⟨tm t,rfl,hv,ht⟩
 |cell k j =>
  have hc:(st.σ.getD k []).getD j .undef=.prv xs:=hc
  cases hcs:st.σ[k]? with
  |none=>simp [List.getD,hcs] at hc
  |some cs =>
   cases hj:cs[j]? with
   |none=>simp [List.getD,hcs,hj] at hc
   |some p =>
    obtain rfl:p=.prv xs:=by simpa [List.getD,hcs,hj] using hc
    have hkl:=(List.getElem?_eq_some_iff.1 hcs).1
    have hk:G.φ[k]?=some (G.φ[k]'(by rw [h.store.len];exact hkl)):=Ã _
    obtain⟨⟨o',arr,hh,⟨hlay,hsz⟩,hcell⟩,hnoU⟩:=h.store.blk k _ cs hk hcs
    have hnm:NM cs:=fun q e=>by
     subst e
     match j,hj with
     |0,hj=>cases hj;rfl
    obtain⟨T,rfl⟩:=hlay.cells hnm
    obtain⟨u,hu,h1,h2,h3⟩:=hcell j _ hj
    exact⟨u,⟨_,hk,by simp only [World.cell?,hh];simpa using hu⟩,h2,h3⟩
 |_=>cases hl
theorem Inv.setL (h:Inv w0 G0 st tm w G)(hv:Xe w G tm l v)(hV:V w G.U G.φ p v)(hT:Cj w G l p v)(hp:Ra p=true)(h1:v.oneCell'=true)(hno:∀ ys,AW st l≠.sl ys .own)(hm:(AW st l).isM=false) :
 Inv w0 G0 (Vl.setL st l p) tm w G:=by
 cases l with
 |tmp t =>
  obtain rfl:tm t=v:=hv
  have:=h.put t hV (by
   cases p with
   |sl xs g=>cases g<;>first|exact hT|cases hp|trivial
   |prv xs=>exact hT
   |asl=>trivial
   |undef=>trivial
   |_=>cases hp)
  rw [H2] at this
  exact this
 |cell k j =>
  obtain⟨b,hk,hcu⟩:=hv
  have hkl:k<st.σ.length:=by rw [<- h.store.len];exact (List.getElem?_eq_some_iff.1 hk).1
  have hcs:st.σ[k]?=some st.σ[k]:=Ã hkl
  have hgd:st.σ.getD k []=st.σ[k]:=by simp [List.getD,hkl]
  show Inv w0 G0 { st with σ:=st.σ.set k ((st.σ.getD k []).set j p) } tm w G
  rw [hgd]
  have hno:∀ ys,(st.σ[k]).getD j .undef≠.sl ys .own:=fun ys e=>hno ys (by show (st.σ.getD k []).getD j .undef=_;rw [hgd];exact e)
  have hm:((st.σ[k]).getD j .undef).isM=false:=by have:((st.σ.getD k []).getD j .undef).isM=false:=hm;rw [hgd] at this;exact this
  generalize st.σ[k]=cs at *
  obtain⟨⟨o',arr,hh,⟨hlay,hsz⟩,hcell⟩,hnoU⟩:=h.store.blk k b cs hk hcs
  by_cases hjl:j<cs.length
  . have hj:cs[j]?=some cs[j]:=Ã hjl
    have hgj:cs.getD j .undef=cs[j]:=by simp [List.getD,hjl]
    rw [hgj] at hno hm
    have hnm:NM cs:=fun q e=>by
     subst e
     have:j=0:=by simpa using hjl
     subst this;exact hm
    have hnoM:∀ p∈cs,p.isM=false:=by
     rcases hlay with hl2|⟨kvs,_,_,e,_⟩|⟨_,_,e,_⟩
     . exact hl2.2
     . exact absurd (hnm _ e) (by simp [PV.isM])
     . exact absurd (hnm _ e) (by simp [PV.isM])
    obtain⟨T,rfl⟩:=hlay.cells hnm
    have hu:arr[j]?=some v:=by simpa [World.cell?,hh] using hcu
    have hget:∀ i,(cs.set j p)[i]?=if i=j then some p else cs[i]?:=fun i=>by
     rw [List.getElem?_set]
     by_cases e:j=i
     . subst e;simp [hjl]
     . rw [Å e,Å (fun e2=>e e2.symm)]
    have hget2:∀ i c,(cs.set j p)[i]?=some c->∃ u,arr[i]?=some u/\u.oneCell'=true/\V w G.U G.φ c u/\Cj w G (.cell k i) c u:=by
     intro i c hi
     rw [hget i] at hi
     by_cases e:i=j
     . subst e
       rw [Ç rfl] at hi
       obtain rfl:=Af hi
       exact⟨v,hu,h1,hV,hT⟩
     . rw [Å e] at hi
       exact hcell i c hi
    refine h.setBlock (cs:=cs) (cs':=cs.set j p) hk hcs hh hh (fun kvs hm=>?_) (fun _ _=>rfl) rfl rfl rfl ⟨by simpa using hsz,fun i hi=>?_⟩ (fun i c hi=>?_) (fun t ys i hi=>?_)
    . rcases List.mem_or_eq_of_mem_set hm with h1|rfl
      . exact hnoM kvs h1
      . cases kvs<;>first|rfl|cases hp
    . obtain⟨u,h1,h2,h3,_⟩:=hget2 i _ (Ã hi)
      have:arr.getD i Go.undef=u:=by simp [h1]
      rw [this];exact⟨h3,h2⟩
    . obtain⟨u,h1,h2,h3,h4⟩:=hget2 i c hi
      have:arr.getD i Go.undef=u:=by simp [h1]
      rw [this];exact h4
    . have ht:=h.env.tag t
      rw [hi] at ht
      obtain⟨cs2,b2,e1,e2,_,_⟩:=ht
      obtain rfl:=Af (hcs.symm.trans e1)
      have hne:i≠j:=by
       rintro rfl
       exact hno ys (by rw [hj] at e2;exact Af e2)
      exact⟨by rw [hget i,Å hne],rfl⟩
  . have e1:cs.set j p=cs:=List.set_eq_of_length_le (Nat.le_of_not_lt hjl)
    have e2:st.σ.set k cs=st.σ:=List.ext_getElem? fun i=>by
     rw [List.getElem?_set]
     by_cases e:k=i
     . subst e;rw [Ç rfl,Ç hkl];exact hcs.symm
     . rw [Å e]
    rw [e1,e2]
    exact h
 |_=>exact hv.elim
theorem L1 (hl:NU l=true):AW (Vl.setL st l .undef) l=.undef:=by
 cases l with
 |tmp t=>rw [AW];show (st.put (some t) .undef).get t=_;rw [BC,Ç rfl]
 |cell k j =>
  show ((st.σ.set k ((st.σ.getD k []).set j .undef)).getD k []).getD j .undef=_
  by_cases hk:k<st.σ.length
  . by_cases hj:j<(st.σ[k]).length
    . simp [List.getD,hk,hj]
    . simp [List.getD,hk,hj]
  . simp [List.getD,hk]
 |_=>cases hl
theorem Inv.setUndef (h:Inv w0 G0 st tm w G)(hc:Ra (AW st l)=true)(hno:∀ ys,AW st l≠.sl ys .own)(hv:Xe w G tm l v)(h1:v.oneCell'=true):Inv w0 G0 (Vl.setL st l .undef) tm w G :=
 h.setL hv (.undef _ _) trivial rfl h1 hno (by revert hc;generalize AW st l=q;intro hc;cases q<;>first|rfl|cases hc)
theorem W0 {φ:List Nat}{U:Nat->Nat->Prop}{xs:List (List Value)}(h:V w U φ (.prv xs) v):v.oneCell'=true:=by cases h;rfl
theorem Inv.toOwn {xs:List (List Value)}(h:Inv w0 G0 st tm w G)(hl:NU l=true)(hc:AW st l=.prv xs):∃ G',Inv w0 G0 (Vl.setL (Vl.setL st l .undef) l (.sl (xs.map fun x=>x.map .lit) .own)) tm w G':=by
 obtain⟨v,hv,hV,hT⟩:=h.getL hl hc
 have hv1:=W0 hV
 have h0:=h.setUndef (by rw [hc];rfl) (by rw [hc];simp) hv hv1
 have hcu:=L1 (st:=st) hl
 have hno:∀ l',some l=some l'->∀ ys,AW (Vl.setL st l .undef) l'≠.sl ys .own:=fun l' e ys e2=>by
  obtain rfl:=Af e
  rw [hcu] at e2;cases e2
 have hno2:∀ l',some l=some l'->∀ ys,AW (Vl.setL st l .undef) l'≠.prv ys:=fun l' e ys e2=>by
  obtain rfl:=Af e
  rw [hcu] at e2;cases e2
 rcases hT with⟨rfl,rfl⟩|⟨b,cap,sz,T,arr,rfl,hne,hcap,hrow,hΩ,hb,⟨hsz,ho,hval⟩,hU⟩
 . exact⟨G,h0.setL hv (.nil _ _) (.inl ⟨rfl,rfl⟩) rfl rfl (hno l rfl) (by rw [hcu];rfl)⟩
 . have hob:=h.store.ob b (by rw [hΩ];simp)
   have h2:=h0.reblk (w':=w) (m:=xs.length*sz) (l0:=l) hob.2 (.inr (by rw [hΩ];simp)) (by rw [hΩ];exact hno) (by rw [hΩ];exact hno2) rfl rfl rfl (Þ _) (fun _ _ _=>rfl) (fun i hu=>absurd hu (hU i)) hb
   have hle:xs.length*sz<=arr.size:=by rw [hsz];exact í _ hcap.1
   have hlt:∀ i j,i<xs.length->j<sz->i*sz+j<arr.size:=fun i j hi hj=>ï (Jn hi hj) hle
   have hln:(xs.map fun x=>x.map PV.lit).length=xs.length:=by simp
   refine⟨_,h2.setL ?_ (p:=.sl (xs.map fun x=>x.map .lit) .own) ?_ ?_ rfl hv1 (hno l rfl) (by rw [hcu];rfl)⟩
   . cases l with
     |tmp t=>exact hv
     |cell k j=>exact hv
     |_=>cases hl
   . rw [<- hln]
     refine .sl _ _ _ b 0 sz cap (fun i j=>arr.getD (i*sz+j) Go.undef) (by rw [hln];exact hcap.1) hcap.2 (fun i hi=>?_) (fun i j hi hj=>.inr ⟨rfl,?_⟩) (fun i j hi hj=>?_) (fun i j hi hj=>?_) (fun i hi j hj=>?_) (by simp) (by simp)
     . rw [ç,Í];exact hrow _ (Ú _)
     . rw [hln] at hi ⊢
       have:=Jn hi hj;omega
     . rw [hln] at hi
       have:=hlt i j hi hj
       simp only [World.cell?,hb,ð]
       simp [this]
     . rw [hln] at hi
       exact ho _ (hlt i j hi hj)
     . rw [hln] at hi
       have hj':j<(xs[i]).length:=by simpa using hj
       rw [hval i hi j hj']
       simp only [ç]
       exact .lit _ _
   . exact .inr ⟨b,cap,sz,T,arr,by rw [hln],by simpa using hne,fun x hx=>by
      obtain⟨y,hy,rfl⟩:=List.mem_map.1 hx
      rw [Í];exact hrow y hy,Ç rfl,hb,hsz,fun i hi=>by
      rw [hln]
      rcases hi with hi|hi
      . exact absurd hi (hU i)
      . exact hi.2⟩
def unC (st:St):Loc->St
 |.cell k j=>{ (st.stripC k j 1) with σ:=st.σ.set k ((st.σ.getD k []).set j (.sl [] .shared)) }
 |.tmp t=>st.put (some t) (.sl [] .shared)
 |_=>st
theorem Inv.toPrv (h:Inv w0 G0 st tm w G)(hl:NU l=true)(hc:AW st l=.sl [] .own):Inv w0 G0 (Vl.setL (unC st l) l (.prv [])) tm w G:=by
 have nilV:∀ {v:Value},A2 w G l [] v->v=.slice none 0 0:=fun h=>by
  rcases h with⟨_,e⟩|⟨b,cap,sz,T,arr,_,hne,_⟩
  . exact e
  . exact absurd rfl hne
 cases l with
 |tmp t =>
  have hg:st.get t=.sl [] .own:=hc
  have ht:=h.env.tag t
  rw [hg] at ht
  have e:=nilV ht
  have h1:=h.share hg
  exact h1.setL (l:=.tmp t) rfl (p:=.prv []) (by rw [e];exact .prv _ [] none 0) (.inl ⟨rfl,e⟩) rfl (by rw [e];rfl) (fun ys e2=>by rw [AW,BC,Ç rfl] at e2;cases e2) (by rw [AW,BC,Ç rfl];rfl)
 |cell k j =>
  have hc:(st.σ.getD k []).getD j .undef=.sl [] .own:=hc
  cases hcs:st.σ[k]? with
  |none=>simp [List.getD,hcs] at hc
  |some cs =>
   cases hj:cs[j]? with
   |none=>simp [List.getD,hcs,hj] at hc
   |some p =>
    obtain rfl:p=.sl [] .own:=by simpa [List.getD,hcs,hj] using hc
    have hkl:=(List.getElem?_eq_some_iff.1 hcs).1
    have hjl:=(List.getElem?_eq_some_iff.1 hj).1
    have hk:G.φ[k]?=some (G.φ[k]'(by rw [h.store.len];exact hkl)):=Ã _
    obtain⟨⟨o',arr,hh,⟨hlay,hsz⟩,hcell⟩,hnoU⟩:=h.store.blk k _ cs hk hcs
    have hnm:NM cs:=fun q e=>by
     subst e
     match j,hj with
     |0,hj=>cases hj;rfl
    obtain⟨T,rfl⟩:=hlay.cells hnm
    obtain⟨u,hu,h1,h2,h3⟩:=hcell j _ hj
    have e:=nilV h3
    have hI:=h.shareCell hcs hj
    have hgd:st.σ.getD k []=cs:=by simp [List.getD,hcs]
    have hcl:AW (unC st (.cell k j)) (.cell k j)=.sl [] .shared:=by
     show ((st.σ.set k ((st.σ.getD k []).set j (.sl [] .shared))).getD k []).getD j .undef=_
     rw [hgd];simp [List.getD,hkl,hjl]
    have hI2:Inv w0 G0 (unC st (.cell k j)) tm w G:=by
     show Inv w0 G0 { (st.stripC k j 1) with σ:=st.σ.set k ((st.σ.getD k []).set j (.sl [] .shared)) } tm w G
     rw [hgd];exact hI
    exact hI2.setL (l:=.cell k j) ⟨_,hk,by simp only [World.cell?,hh];simpa using hu⟩ (p:=.prv []) (by rw [e];exact .prv _ [] none 0) (.inl ⟨rfl,e⟩) rfl (by rw [e];rfl) (fun ys e2=>by rw [hcl] at e2;cases e2) (by rw [hcl];rfl)
 |_=>cases hl
def Wc (st:St)(cs:List PV):St:={ st with σ:=st.σ++[cs] }
theorem Inv.addPlace {b:Nat}{cs:List PV}{arr:Array Value}{T:TypeId}{l0:Loc}(h:Inv w0 G0 st tm w G)(hΩ:G.Ω b=some l0)(hno:∀ ys,AW st l0≠.sl ys .own)(hno2:∀ ys,AW st l0≠.prv ys)
 (hb:w.heap[b]?=some (.cells arr T (0,0))) (hsz:arr.size=cs.length) (hm:∀ p∈cs,p.isM=false) (hU:∀ i,¬ G.U b i)
 (hv:∀ j c,cs[j]?=some c->(arr.getD j Go.undef).oneCell'=true/\V w G.U [] c (arr.getD j Go.undef)/\(∀ xs,c≠.sl xs .own)/\∀ xs,c≠.prv xs) :
 Inv w0 G0 (Wc st cs) tm w { U:=G.U,φ:=G.φ++[b],Ω:=fun b'=>if b'=b then none else G.Ω b' }:=by
 have hob:=h.store.ob b (by rw [hΩ];simp)
 have hlen:=h.store.len
 have hφ:∀ (k x:Nat),G.φ[k]?=some x->(G.φ++[b])[k]?=some x:=fun k x hk=>by
  rw [Ô (List.getElem?_eq_some_iff.1 hk).1];exact hk
 have hV:∀ {p:PV} {v:Value},V w G.U G.φ p v->V w G.U (G.φ++[b]) p v:=fun hv=>hv.mono (fun _ _ h=>⟨h,Kp.refl⟩) hφ
 have own:∀ {l xs v},l≠l0->A2 w G l xs v->A2 w { U:=G.U,φ:=G.φ++[b],Ω:=fun b'=>if b'=b then none else G.Ω b' } l xs v:=fun hne h1=>h1.to rfl fun b2 hb2=>by
  show (if b2=b then none else G.Ω b2)=_
  rw [Å (fun e=>hne (by rw [e,hΩ] at hb2;exact (Af hb2).symm))];exact hb2
 have prv:∀ {l xs v},l≠l0->BE w G l xs v->BE w { U:=G.U,φ:=G.φ++[b],Ω:=fun b'=>if b'=b then none else G.Ω b' } l xs v:=fun hne h1=>h1.to rfl fun b2 hb2=>by
  show (if b2=b then none else G.Ω b2)=_
  rw [Å (fun e=>hne (by rw [e,hΩ] at hb2;exact (Af hb2).symm))];exact hb2
 refine⟨h.ext.trans ⟨rfl,rfl,rfl,Þ _,fun _ _ _ _=>rfl,fun _ _ h=>⟨h,Kp.refl⟩,fun _ _ h=>.inl h,fun b' hb'=>.inr (fun e=>hb' (by show (if b'=b then none else G.Ω b')=none;split<;>first|rfl|exact e)),[b],rfl,fun b' hb'=>by
  obtain rfl:b'=b:=by simpa using hb'
  exact .inr (by rw [hΩ];simp)⟩,⟨by simp [Wc,hlen],?_,fun k b' cs2 hk hc2=>?_,h.store.ub,fun b' hb'=>?_⟩,fun t=>hV (h.env.v t),fun t=>?_⟩
 . rw [Đ]
   refine⟨h.store.nodup,by simp,fun x hx y hy e=>?_⟩
   obtain rfl:y=b:=by simpa using hy
   exact hob.2 (e ▸ hx)
 . by_cases hkl:k<st.σ.length
   . have hk':G.φ[k]?=some b':=by rw [Ô (by omega)] at hk;exact hk
     have hc':st.σ[k]?=some cs2:=by
      have:(st.σ++[cs])[k]?=some cs2:=hc2
      rw [Ô hkl] at this;exact this
     obtain⟨⟨o',arr',g1,⟨g2,g3⟩,g4⟩,g5⟩:=h.store.blk k b' cs2 hk' hc'
     refine⟨⟨o',arr',g1,⟨g2,g3⟩,fun j c hj=>?_⟩,g5⟩
     obtain⟨v,k1,k2,k3,k4⟩:=g4 j c hj
     refine⟨v,k1,k2,hV k3,?_⟩
     unfold Cj at k4 ⊢
     split
     . rename_i xs
       refine own (fun e=>hno xs ?_) k4
       rw [<- e];simp [AW,List.getD,hc',hj]
     . rename_i xs
       refine prv (fun e=>hno2 xs ?_) k4
       rw [<- e];simp [AW,List.getD,hc',hj]
     . trivial
   . have hk2:k=st.σ.length:=by
      have:=(List.getElem?_eq_some_iff.1 hc2).1
      simp [Wc] at this;omega
     subst hk2
     obtain rfl:b=b':=by
      rw [ß (by omega)] at hk
      simpa [hlen] using hk
     obtain rfl:cs=cs2:=by
      have:(st.σ++[cs])[st.σ.length]?=some cs2:=hc2
      simpa using this
     refine⟨⟨_,arr,hb,⟨.inl ⟨⟨T,rfl⟩,hm⟩,hsz⟩,fun j c hj=>?_⟩,hU⟩
     obtain⟨k1,k2,k3,k4⟩:=hv j c hj
     have hjl:j<arr.size:=by rw [hsz];exact (List.getElem?_eq_some_iff.1 hj).1
     refine⟨arr.getD j Go.undef,by simp [hjl],k1,k2.mono (fun _ _ h=>⟨h,Kp.refl⟩) (fun k x hk=>by simp at hk),?_⟩
     unfold Cj
     split
     . exact absurd rfl (k3 _)
     . exact absurd rfl (k4 _)
     . trivial
 . have hb2:(if b'=b then none else G.Ω b')≠none:=hb'
   split at hb2
   . exact absurd rfl hb2
   . rename_i hne
     have:=h.store.ob b' hb2
     refine⟨this.1,fun hm=>?_⟩
     rcases List.mem_append.1 hm with hm|hm
     . exact this.2 hm
     . exact hne (by simpa using hm)
 . have ht:=h.env.tag t
   show DS w _ (Wc st cs) tm t (st.get t) (tm t)
   have hcl1:∀ xs,st.get t=.sl xs .own->Loc.tmp t≠l0:=fun xs e e2=>hno xs (by rw [<- e2];exact e)
   have hcl2:∀ xs,st.get t=.prv xs->Loc.tmp t≠l0:=fun xs e e2=>hno2 xs (by rw [<- e2];exact e)
   have hcl3:∀ c2 i xs,st.get t=.tup c2->c2[i]?=some (.sl xs .own)->Loc.tcomp t i≠l0:=fun c2 i xs e e3 e2=>hno xs (by rw [<- e2];simp [AW,e,List.getD,e3])
   revert ht hcl1 hcl2 hcl3
   generalize st.get t=q
   intro ht hcl1 hcl2 hcl3
   cases q with
   |prv xs=>exact prv (hcl2 xs rfl) ht
   |sl xs g =>
    cases g with
    |own=>exact own (hcl1 xs rfl) ht
    |view m =>
     cases m with
     |cell k j =>
      obtain⟨c2,b2,e1,e2,e3,e4⟩:=ht
      exact⟨c2,b2,by show (st.σ++[cs])[k]?=_;rw [Ô (List.getElem?_eq_some_iff.1 e1).1];exact e1,e2,hφ _ _ e3,e4⟩
     |_=>exact ht
    |_=>trivial
   |tup c2 =>
    intro i xs hi
    obtain⟨arr2,u,k1,k2,k3⟩:=ht i xs hi
    exact⟨arr2,u,k1,k2,own (hcl3 c2 i xs rfl hi) k3⟩
   |_=>trivial
def Wn (st:St)(l:Loc)(xs:List (List Value))(cap m:Nat):St:=Vl.setL (Wc (Vl.setL st l .undef) (DE xs m)) l (.asl st.σ.length 0 xs.length cap)
theorem Yo (l:Loc)(p:PV):(Vl.setL st l p).σ.length=st.σ.length:=by
 cases l with
 |tmp t=>show (st.put (some t) p).σ.length=_;rw [Lf]
 |cell k j=>show (st.σ.set _ _).length=_;simp
 |_=>rfl
theorem Pm {xs:List (List Value)}{m sz:Nat}(hrow:∀ x∈xs,x.length=sz):(DE xs m).length=xs.length*sz+m:=by
 simp only [DE,Õ,Í,List.length_replicate,Eh xs hrow]
theorem SY {xs:List (List Value)}{m sz i j:Nat}(hrow:∀ x∈xs,x.length=sz)(hi:i<xs.length)(hj:j<(xs[i]).length):(DE xs m)[i*sz+j]?=some (.lit xs[i][j]):=by
 have e:=FK xs hrow i hi j hj
 have hlt:=(List.getElem?_eq_some_iff.1 e).1
 unfold DE
 rw [Ô (by rw [Í];exact hlt),å,e];rfl
theorem Nw {xs:List (List Value)}{m:Nat}{p:PV}(h:p∈DE xs m):p=.undef∨∃ v,p=.lit v:=by
 unfold DE at h
 rcases List.mem_append.1 h with h|h
 . obtain⟨v,_,rfl⟩:=List.mem_map.1 h;exact .inr ⟨v,rfl⟩
 . exact .inl (List.eq_of_mem_replicate h)
theorem Inv.thaw {xs:List (List Value)}(h:Inv w0 G0 st tm w G)(hl:NU l=true)(hc:AW st l=.prv xs)(hne:xs≠[]) :
 ∃ cap m sz G',xs.length<=cap/\cap*sz=xs.length*sz+m/\(∀ x∈xs,x.length=sz)/\Inv w0 G0 (Wn st l xs cap m) tm w G':=by
 obtain⟨v,hv,hV,hT⟩:=h.getL hl hc
 have hv1:=W0 hV
 have h0:=h.setUndef (by rw [hc];rfl) (by rw [hc];simp) hv hv1
 have hcu:=L1 (st:=st) hl
 rcases hT with⟨e,_⟩|⟨b,cap,sz,T,arr,rfl,hne,hcap,hrow,hΩ,hb,⟨hsz,ho,hval⟩,hU⟩
 . exact absurd e hne
 have hle:xs.length*sz<=arr.size:=by rw [hsz];exact í _ hcap.1
 have hm:cap*sz=xs.length*sz+(cap*sz-xs.length*sz):=by omega
 have hal:arr.size=(DE xs (cap*sz-xs.length*sz)).length:=by rw [Pm hrow,hsz];omega
 have hpos:0<sz∨sz=0:=by omega
 have h2:=h0.addPlace (cs:=DE xs (cap*sz-xs.length*sz)) (T:=T) hΩ (by rw [hcu];simp) (by rw [hcu];simp) hb hal (fun p hp=>by
  rcases Nw hp with rfl|⟨v,rfl⟩<;>rfl) hU (fun q c hq=>by
  have hql:=(List.getElem?_eq_some_iff.1 hq).1
  refine⟨ho q (by omega),?_,?_,?_⟩
  . by_cases hqx:q<xs.length*sz
    . have hsp:0<sz:=by rcases hpos with h|h;exact h;rw [h] at hqx;omega
      have hi:q / sz<xs.length:=(Nat.div_lt_iff_lt_mul hsp).2 hqx
      have hj:q % sz<(xs[q / sz]).length:=by rw [hrow _ (Ú hi)];exact Nat.mod_lt _ hsp
      have e:q / sz*sz+q % sz=q:=by rw [Nat.mul_comm,Nat.div_add_mod]
      have k1:=SY (m:=cap*sz-xs.length*sz) hrow hi hj
      have k2:=hval _ hi _ hj
      rw [e] at k1 k2
      rw [hq] at k1
      rw [Af k1,k2]
      exact .lit _ _
    . have:c=.undef:=by
       unfold DE at hq
       rw [ß (by rw [Í,Eh xs hrow];omega)] at hq
       exact List.eq_of_mem_replicate (Ò hq)
      rw [this];exact .undef _ _
  . rcases Nw (Ò hq) with rfl|⟨v,rfl⟩<;>simp
  . rcases Nw (Ò hq) with rfl|⟨v,rfl⟩<;>simp)
 have hlen:G.φ.length=st.σ.length:=h.store.len
 have hcl2:AW (Wc (Vl.setL st l .undef) (DE xs (cap*sz-xs.length*sz))) l=.undef:=by
  cases l with
  |tmp t=>exact hcu
  |cell k j =>
   have hk:k<st.σ.length:=by
    rw [<- hlen]
    obtain⟨b,hk,_⟩:=hv
    exact (List.getElem?_eq_some_iff.1 hk).1
   have hcu2:((Vl.setL st (.cell k j) .undef).σ.getD k []).getD j .undef=.undef:=hcu
   show (((Vl.setL st (.cell k j) .undef).σ++[_]).getD k []).getD j .undef=.undef
   simp only [List.getD] at hcu2 ⊢
   rw [Ô (by rw [Yo];exact hk)]
   exact hcu2
  |_=>cases hl
 refine⟨cap,cap*sz-xs.length*sz,sz,_,hcap.1,hm,hrow,h2.setL (p:=.asl st.σ.length 0 xs.length cap) (v:=.slice (some ⟨b,0,none⟩) xs.length cap) ?_ (.asl _ _ _ _ _ b (by rw [<- hlen];simp) hcap.1 hcap.2) trivial rfl hv1 (by rw [hcl2];simp) (by rw [hcl2];rfl)⟩
 cases l with
 |tmp t=>exact hv
 |cell k j =>
  obtain⟨b',hk,hcu⟩:=hv
  exact⟨b',by show (G.φ++[b])[k]?=_;rw [Ô (List.getElem?_eq_some_iff.1 hk).1];exact hk,hcu⟩
 |_=>cases hl
def U5 (st:St)(n:Nat):St:={ st with σ:=st.σ.take n }
def Wl (st:St)(l:Loc)(n:Nat)(xs:List (List Value)):St:=Vl.setL (U5 (Vl.setL st l .undef) n) l (.prv xs)
theorem Inv.unthaw {xs:List (List Value)}{n cap m sz:Nat}(h:Inv w0 G0 st tm w G)(hl:NU l=true)(hc:AW st l=.asl n 0 xs.length cap)(hne:xs≠[])(hn:G0.φ.length<=n)(hk:st.σ[n]?=some (DE xs m))(hlast:st.σ.length=n+1)
 (hrow:∀ x∈xs,x.length=sz) (hsz:cap*sz=xs.length*sz+m) (hl2:(match l with|.cell k _=>decide (k<n)|_=>true)=true)
 (hf:(∀ t,(((Vl.setL st l .undef).get t).fits n&&MI n ((Vl.setL st l .undef).get t))=true)/\Ei n ((Vl.setL st l .undef).σ.take n)=true) :
 ∃ G',Inv w0 G0 (Wl st l n xs) tm w G':=by
 have hlen:G.φ.length=st.σ.length:=h.store.len
 obtain⟨v,hv,hV⟩:∃ v,Xe w G tm l v/\V w G.U G.φ (.asl n 0 xs.length cap) v:=by
  cases l with
  |tmp t =>
   have hg:st.get t=_:=hc
   have hv:=h.env.v t
   rw [hg] at hv
   exact⟨tm t,rfl,hv⟩
  |cell k j =>
   have hc:(st.σ.getD k []).getD j .undef=.asl n 0 xs.length cap:=hc
   cases hcs:st.σ[k]? with
   |none=>simp [List.getD,hcs] at hc
   |some cs =>
    cases hj:cs[j]? with
    |none=>simp [List.getD,hcs,hj] at hc
    |some p =>
     obtain rfl:p=.asl n 0 xs.length cap:=by simpa [List.getD,hcs,hj] using hc
     have hkl:=(List.getElem?_eq_some_iff.1 hcs).1
     have hk:G.φ[k]?=some (G.φ[k]'(by rw [hlen];exact hkl)):=Ã _
     obtain⟨⟨o',arr,hh,⟨hlay,hsz⟩,hcell⟩,hnoU⟩:=h.store.blk k _ cs hk hcs
     have hnm:NM cs:=fun q e=>by
      subst e
      match j,hj with
      |0,hj=>cases hj;rfl
     obtain⟨T,rfl⟩:=hlay.cells hnm
     obtain⟨u,hu,h1,h2,h3⟩:=hcell j _ hj
     exact⟨u,⟨_,hk,by simp only [World.cell?,hh];simpa using hu⟩,h2⟩
  |_=>cases hl
 cases hV with
 |asl _ _ _ _ _ b hb hcap hcap2 =>
 have h0:=h.setUndef (by rw [hc];rfl) (by rw [hc];simp) hv rfl
 have hcu:=L1 (st:=st) hl
 obtain⟨⟨o',arr,hh,⟨hlay,hasz⟩,hcell⟩,hnoU⟩:=h.store.blk n b _ hb hk
 obtain⟨T,rfl⟩:=hlay.cells (fun q e=>by
  rcases Nw (xs:=xs) (m:=m) (p:=q) (by rw [e];simp) with rfl|⟨v,rfl⟩<;>rfl)
 have hbn:b∉G.φ.take n:=fun hm=>by
  obtain⟨i,hi,e⟩:=õ hm
  have hi2:i<n:=by simp at hi;omega
  have e2:G.φ[i]?=some b:=by rw [<- e,List.getElem_take];exact Ã _
  have:=(List.getElem?_inj (List.getElem?_eq_some_iff.1 e2).1 h.store.nodup).1 (e2.trans hb.symm)
  omega
 have hΩ:G.Ω b=none:=by
  cases e:G.Ω b with
  |none=>rfl
  |some l=>exact absurd (Ò hb) (h.store.ob b (by rw [e];simp)).2
 have hnew:w0.heap.size<=b∨G0.Ω b≠none:=by
  obtain⟨ψ,hφ,hψ⟩:=h.ext.phi
  refine hψ b ?_
  rw [hφ,ß hn] at hb
  exact Ò hb
 have h2:=h0.take0 hn hf
 have hbl:b<w.heap.size:=(Array.getElem?_eq_some_iff.1 hh).1
 have own:∀ {l2 xs v},A2 w { G with φ:=G.φ.take n } l2 xs v->A2 w { U:=G.U,φ:=G.φ.take n,Ω:=fun b'=>if b'=b then some l else G.Ω b' } l2 xs v:=fun h1=>h1.to rfl fun b2 hb2=>by
  show (if b2=b then some l else G.Ω b2)=_
  rw [Å (fun e=>by rw [e] at hb2;exact absurd (hΩ.symm.trans hb2) (by simp))];exact hb2
 have prv:∀ {l2 xs v},BE w { G with φ:=G.φ.take n } l2 xs v->BE w { U:=G.U,φ:=G.φ.take n,Ω:=fun b'=>if b'=b then some l else G.Ω b' } l2 xs v:=fun h1=>h1.to rfl fun b2 hb2=>by
  show (if b2=b then some l else G.Ω b2)=_
  rw [Å (fun e=>by rw [e] at hb2;exact absurd (hΩ.symm.trans hb2) (by simp))];exact hb2
 have h3:Inv w0 G0 (U5 (Vl.setL st l .undef) n) tm w { U:=G.U,φ:=G.φ.take n,Ω:=fun b'=>if b'=b then some l else G.Ω b' }:=by
  refine⟨⟨h2.ext.os,h2.ext.tape,h2.ext.output,h2.ext.size,h2.ext.frame,h2.ext.cells,h2.ext.newU,fun b' hb'=>?_,h2.ext.phi⟩,⟨h2.store.len,h2.store.nodup,fun k b' cs hk hc=>?_,h2.store.ub,fun b' hb'=>?_⟩,h2.env.v,fun t=>?_⟩
  . have hb2:(if b'=b then some l else G.Ω b')≠none:=hb'
    by_cases e:b'=b
    . subst e;exact hnew
    . rw [Å e] at hb2;exact h2.ext.newΩ b' hb2
  . obtain⟨⟨o',arr',g1,⟨g2,g3⟩,g4⟩,g5⟩:=h2.store.blk k b' cs hk hc
    refine⟨⟨o',arr',g1,⟨g2,g3⟩,fun j c hj=>?_⟩,g5⟩
    obtain⟨v,k1,k2,k3,k4⟩:=g4 j c hj
    refine⟨v,k1,k2,k3,?_⟩
    unfold Cj at k4 ⊢
    split
    . exact own k4
    . exact prv k4
    . trivial
  . have hb2:(if b'=b then some l else G.Ω b')≠none:=hb'
    by_cases e:b'=b
    . subst e;exact⟨hbl,hbn⟩
    . rw [Å e] at hb2;exact h2.store.ob b' hb2
  . have ht:=h2.env.tag t
    show DS w _ (U5 (Vl.setL st l .undef) n) tm t ((Vl.setL st l .undef).get t) (tm t)
    revert ht
    show DS w _ (U5 (Vl.setL st l .undef) n) tm t ((Vl.setL st l .undef).get t) (tm t)->_
    generalize (Vl.setL st l .undef).get t=q
    intro ht
    cases q with
    |prv xs=>exact prv ht
    |sl xs g =>
     cases g with
     |own=>exact own ht
     |view m=>cases m<;>exact ht
     |_=>trivial
    |tup c2 =>
     intro i xs hi
     obtain⟨arr2,u,k1,k2,k3⟩:=ht i xs hi
     exact⟨arr2,u,k1,k2,own k3⟩
    |_=>trivial
 have hcl2:AW (U5 (Vl.setL st l .undef) n) l=.undef:=by
  cases l with
  |tmp t=>exact hcu
  |cell k j =>
   have hcu2:((Vl.setL st (.cell k j) .undef).σ.getD k []).getD j .undef=.undef:=hcu
   have hk2:k<n:=by simpa using hl2
   show (((Vl.setL st (.cell k j) .undef).σ.take n).getD k []).getD j .undef=.undef
   simp only [List.getD] at hcu2 ⊢
   rw [ă,Ç hk2]
   exact hcu2
  |_=>cases hl
 have halen:(DE xs m).length=xs.length*sz+m:=Pm hrow
 refine⟨_,h3.setL (p:=.prv xs) (v:=.slice (some ⟨b,0,none⟩) xs.length cap) ?_ (.prv _ _ _ _) (.inr ⟨b,cap,sz,T,arr,rfl,hne,⟨hcap,hcap2⟩,hrow,Ç rfl,hh,⟨by rw [hasz,halen,hsz],fun q hq=>?_,fun i hi j hj=>?_⟩,hnoU⟩) rfl rfl (by rw [hcl2];simp) (by rw [hcl2];rfl)⟩
 . cases l with
   |tmp t=>exact hv
   |cell k j =>
    obtain⟨b',hk,hcu⟩:=hv
    have hk2:k<n:=by simpa using hl2
    exact⟨b',by show (G.φ.take n)[k]?=_;rw [ă,Ç hk2];exact hk,hcu⟩
   |_=>cases hl
 . obtain⟨v,k1,k2,_⟩:=hcell q _ (Ã (by omega))
   simpa [k1] using k2
 . obtain⟨v,k1,k2,k3,_⟩:=hcell _ _ (SY (m:=m) hrow hi hj)
   have e:arr.getD (i*sz+j) Go.undef=v:=by simp [k1]
   rw [e]
   cases k3
   rfl
end
end Go.Vl
namespace Go.Sp
open Go Go.RowKit Go.Q Go.Vl
def ZN (x:List TI×St):Bool:=match Mx 99 x.1 with
 |.code _::_=>true
 |_=>false
section
variable {P:Program} {L:Cf} {N:Nat} {Q:AX->St->Prop} {x:List TI×St}
theorem Z0 {X:St->Prop}(hc:ZN x=true)(hw:G9 N x.2 X)(h:∀ s,X s->WX P L N Q (Mx 99 x.1,s)):WX P L N Q x:=by
 unfold ZN at hc
 refine⟨zp (n:=99) ?_⟩
 split at hc
 . rename_i c k e
   rw [e]
   refine G9.bind hw fun s hs=>?_
   have:=(h s hs).s
   simp only at this
   rw [e] at this
   exact this
 . cases hc
theorem pvX (l:Vl.Loc)(h:WX P L N Q (Mx 99 x.1,setL (unC x.2 l) l (.prv [])))(he:(ZN x&&NU l,AW x.2 l)=(true,.sl [] .own):=by kernel_rfl):WX P L N Q x:=by
 obtain⟨e1,e2⟩:=Ó he
 rw [Æ] at e1
 exact Z0 e1.1 (G9.of (st2:=setL (unC x.2 l) l (.prv [])) (fun w0 G0 tm w G _ hI=>⟨G,hI.toPrv e1.2 e2⟩) rfl) fun s hs=>by subst hs;exact h
theorem poX (l:Vl.Loc)(xs:List (List Value))(h:WX P L N Q (Mx 99 x.1,setL (setL x.2 l .undef) l (.sl (xs.map fun x=>x.map .lit) .own)))(he:(ZN x&&NU l,AW x.2 l)=(true,.prv xs):=by kernel_rfl):WX P L N Q x:=by
 obtain⟨e1,e2⟩:=Ó he
 rw [Æ] at e1
 exact Z0 e1.1 (G9.of (st2:=setL (setL x.2 l .undef) l (.sl (xs.map fun x=>x.map .lit) .own)) (fun w0 G0 tm w G _ hI=>hI.toOwn e1.2 e2) rfl) fun s hs=>by subst hs;exact h
theorem thX (l:Vl.Loc)(xs:List (List Value))(hne:xs≠[])(h:∀ cap m sz,xs.length<=cap->cap*sz=xs.length*sz+m->(∀ x∈xs,x.length=sz)->WX P L N Q (Mx 99 x.1,Wn x.2 l xs cap m))
 (he:(ZN x&&NU l,AW x.2 l)=(true,.prv xs):=by kernel_rfl):WX P L N Q x:=by
 obtain⟨e1,e2⟩:=Ó he
 rw [Æ] at e1
 refine Z0 (X:=fun s=>∃ cap m sz,xs.length<=cap/\cap*sz=xs.length*sz+m/\(∀ x∈xs,x.length=sz)/\s=Wn x.2 l xs cap m) e1.1 (fun w0 G0 tm w G _ hI=>?_) fun s hs=>?_
 . obtain⟨cap,m,sz,G',h1,h2,h3,h4⟩:=hI.thaw e1.2 e2 hne
   exact⟨_,G',⟨cap,m,sz,h1,h2,h3,rfl⟩,h4⟩
 . obtain⟨cap,m,sz,h1,h2,h3,rfl⟩:=hs
   exact h cap m sz h1 h2 h3
def Zv (n:Nat):Vl.Loc->Bool
 |.cell k _=>Nat.ble (k+1) n
 |_=>true
theorem unX (l:Vl.Loc)(xs:List (List Value))(n cap m:Nat){sz:Nat}(hne:xs≠[])(hsz:cap*sz=xs.length*sz+m)(hrow:∀ x∈xs,x.length=sz)(h:WX P L N Q (Mx 99 x.1,Wl x.2 l n xs))
 (he:((ZN x&&NU l)&&((Nat.ble N n&&Nat.beq x.2.σ.length (n+1))&&(Zv n l&&((setL x.2 l .undef).env.all (fun z=>(Cr (setL x.2 l .undef).env z.1).fits n&&MI n (Cr (setL x.2 l .undef).env z.1))&&Ei n ((setL x.2 l .undef).σ.take n)))),AW x.2 l,x.2.σ[n]?)=(true,.asl n 0 xs.length cap,some (DE xs m)):=by kernel_rfl):WX P L N Q x:=by
 simp only [È,Æ] at he
 obtain⟨⟨⟨e1,e2⟩,⟨⟨e3,e4⟩,e5,e6,e7⟩⟩,e8,e9⟩:=he
 refine Z0 e1 (G9.of (st2:=Wl x.2 l n xs) (fun w0 G0 tm w G hN hI=>hI.unthaw e2 e8 hne (ğ hN (Ø e3)) e9 (Nat.eq_of_beq_eq_true e4) hrow hsz ?_ ⟨?_,e7⟩) rfl) fun s hs=>by subst hs;exact h
 . cases l with
   |cell k j=>exact Ì (Ø e5)
   |_=>rfl
 . exact X9 (p:=fun q=>q.fits n&&MI n q) rfl _ e6
end
structure Rl (α:Type) where
 vals:α->List Value
 n:Nat
 len:∀ x,(vals x).length=n
def H8 {α:Type}(l:List α)(i:Int)(x:α):Option (List α):=if 0<=i/\i<(l.length:Int) then some (l.set i.toNat x) else none
def gx (n:Nat)(i:Int):Option Unit:=if 0<=i/\i<(n:Int) then some () else none
theorem En {n:Nat}{i:Int}{u:Unit}(h:gx n i=some u):0<=i/\i<(n:Int):=by
 unfold gx at h
 split at h
 . assumption
 . cases h
section
variable {α:Type} (R:Rl α)
theorem Rl.row (l:List α):∀ x∈l.map R.vals,x.length=R.n:=fun x hx=>by
 obtain⟨y,_,rfl⟩:=List.mem_map.1 hx
 exact R.len y
theorem YN {l:List α}{i:Int}{x:α}(h:gi l i=some x):0<=i/\i.toNat<l.length/\l[i.toNat]?=some x:=by
 unfold gi at h
 split at h
 . rename_i h0
   exact⟨h0,(List.getElem?_eq_some_iff.1 h).1,h⟩
 . cases h
theorem Zx {l:List α}{m i j:Nat}{x:α}{v:Value}(h:l[i]?=some x)(hv:(R.vals x)[j]?=some v):(DE (l.map R.vals) m)[i*R.n+j]?=some (.lit v):=by
 have hi:=(List.getElem?_eq_some_iff.1 h).1
 have e:(l.map R.vals)[i]'(by simpa using hi)=R.vals x:=by
  rw [ç];congr 1;rw [Ã hi] at h;exact Af h
 have hj:=(List.getElem?_eq_some_iff.1 hv)
 have:=SY (m:=m) (R.row l) (i:=i) (by simpa using hi) (j:=j) (by rw [e];exact hj.1)
 rw [this];congr 2
 simp only [e];exact hj.2
theorem QG {xs:List (List Value)}{m:Nat}:∀ q∈DE xs m,q=.undef∨∃ v,q=.lit v:=fun _ hq=>Nw hq
theorem ldE {l:List α}{m:Nat}{i:Int}{x:α}(h:gi l i=some x):LdA true (DE (l.map R.vals) m) (0+i.toNat*R.n) R.n (.agg ((R.vals x).map .lit)):=by
 obtain⟨_,h1,h2⟩:=YN h
 have hlen:=Pm (m:=m) (R.row l)
 have hle:(i.toNat+1)*R.n<=l.length*R.n:=í _ h1
 rw [ò,Ğ] at hle
 rw [Í] at hlen
 refine⟨QG,?_⟩
 rw [Ç rfl,ð]
 refine⟨by omega,?_⟩
 congr 1
 refine List.ext_getElem? fun j=>?_
 rw [ă,å]
 by_cases hj:j<R.n
 . rw [Ç hj,List.getElem?_drop]
   have hv:(R.vals x)[j]?=some ((R.vals x)[j]'(by rw [R.len];exact hj)):=Ã _
   rw [Zx R h2 hv,hv];rfl
 . rw [Å hj,List.getElem?_eq_none (by rw [R.len];omega)];rfl
theorem ldF {l:List α}{m off:Nat}{i:Int}{x:α}{v:Value}(h:gi l i=some x)(hv:(R.vals x)[off]?=some v):LdA false (DE (l.map R.vals) m) (0+i.toNat*R.n+off) 1 (.lit v):=by
 obtain⟨_,h1,h2⟩:=YN h
 have e:=Zx R (m:=m) h2 hv
 have hlt:=(List.getElem?_eq_some_iff.1 e).1
 refine⟨QG,?_⟩
 rw [Å (by simp),ð]
 exact⟨hlt,by rw [List.getD,e];rfl⟩
theorem Uq {n:Nat}:∀ (xs:List (List Value)) (i j:Nat) (y:List Value),(∀ x∈xs,x.length=n)->i<xs.length->j+y.length<=n ->
 splice (xs.flatten.map PV.lit) (i*n+j) (y.map .lit)=((xs.set i (((xs.getD i []).take j)++y++((xs.getD i []).drop (j+y.length)))).flatten).map PV.lit
 | [],i,j,y,_,hi,_=>by simp at hi
 |x::xs,0,j,y,h,_,hj=>by
  have hx:=h x (by simp)
  unfold splice
  simp only [Nat.zero_mul,ð,List.flatten_cons,Ď,List.set_cons_zero,List.getD_cons_zero,Í]
  rw [Ĩ (by simp;omega),ĩ (by simp;omega)]
  simp [List.map_take,List.map_drop,ñ]
 |x::xs,i+1,j,y,h,hi,hj=>by
  have hx:=h x (by simp)
  have ih:=Uq xs i j y (fun x hx=>h x (by simp [hx])) (by simpa using hi) hj
  unfold splice at ih ⊢
  simp only [List.flatten_cons,Ď,List.set_cons_succ,List.getD_cons_succ,Í] at ih ⊢
  rw [<- ih]
  have e:(i+1)*n+j=(x.map PV.lit).length+(i*n+j):=by rw [Í,hx,ò];omega
  rw [e,List.take_length_add_append,Ĭ,List.drop_length_add_append]
  simp [ñ]
theorem Vb {cs ds ns:List PV}{o:Nat}(h:o+ns.length<=cs.length):splice (cs++ds) o ns=splice cs o ns++ds:=by
 unfold splice
 rw [Ĩ (by omega),ĩ (by omega)]
 simp [ñ]
theorem stF {l l':List α}{m off:Nat}{i:Int}{x x':α}{y:List Value}(h:gi l i=some x)(h':H8 l i x'=some l')(hy:off+y.length<=R.n)(hx:(R.vals x).take off++y++(R.vals x).drop (off+y.length)=R.vals x') :
 StA (DE (l.map R.vals) m) (0+i.toNat*R.n+off) y.length (y.map .lit) (DE (l'.map R.vals) m):=by
 obtain⟨h0,h1,h2⟩:=YN h
 have hlen:=Pm (m:=m) (R.row l)
 have hle:(i.toNat+1)*R.n<=l.length*R.n:=í _ h1
 rw [ò,Ğ] at hle
 rw [Í] at hlen
 obtain rfl:l.set i.toNat x'=l':=by
  unfold H8 at h'
  rw [Ç ⟨h0,by omega⟩] at h'
  exact Af h'
 rw [ð]
 refine⟨QG,by simp,by omega,?_⟩
 unfold DE
 have hfl:=Eh (l.map R.vals) (R.row l)
 rw [Í] at hfl
 rw [Vb (by rw [Í,Í,hfl];omega),Uq (n:=R.n) _ _ _ _ (R.row l) (by simpa using h1) hy]
 congr 3
 have e:(l.map R.vals).getD i.toNat []=R.vals x:=by simp [List.getD,h2]
 rw [e,hx,List.map_set]
theorem stE {l l':List α}{m:Nat}{i:Int}{x':α}(h':H8 l i x'=some l'):StA (DE (l.map R.vals) m) (0+i.toNat*R.n) R.n ((R.vals x').map .lit) (DE (l'.map R.vals) m):=by
 have hb:0<=i/\i<(l.length:Int):=by
  unfold H8 at h'
  split at h'
  . assumption
  . cases h'
 have hi:i.toNat<l.length:=by omega
 have hx:gi l i=some l[i.toNat]:=by unfold gi;rw [Ç hb.1];exact Ã hi
 have:=stF R (m:=m) (off:=0) (y:=R.vals x') hx h' (by rw [R.len];omega) (by rw [List.take_zero,Ā,ð,R.len,č (by rw [R.len];exact Þ _),đ])
 rw [R.len,Nat.add_zero] at this
 exact this
theorem apP {b:Nat}{l z ys:List α}(hy:ys≠[])(h:Cs b l ys=some z) :
 (decide (((l.map R.vals).length+(ys.map R.vals).length)*b<=140737488355328)&&(!((ys.map R.vals).isEmpty)&&((l.map R.vals).all (fun x=>x.length == R.n)&&(ys.map R.vals).all (fun x=>x.length == R.n))))=true/\PV.prv (l.map R.vals++ys.map R.vals)=.prv (z.map R.vals):=by
 unfold Cs at h
 split at h
 . rename_i hb
   obtain rfl:=Af h
   refine⟨?_,by simp⟩
   have h1:∀ l:List α,(l.map R.vals).all (fun x=>x.length == R.n)=true:=fun l=>by
    rw [Û];intro y hy;rw [þ];exact R.row l y hy
   rw [h1,h1]
   simp only [Í,ī,Æ,Î,ä,List.isEmpty_eq_false_iff]
   exact⟨hb,by simpa using hy⟩
 . cases h
def N1 (b sz n:Nat){i:Int}(h:0<=i/\i<(n:Int)):Fa:=⟨.val (.ptr b (0+i.toNat*sz)),decide (0<=i/\i<(n:Int))=true/\PV.ptr b (0+i.toNat*sz)=.ptr b (0+i.toNat*sz),Ì h,rfl⟩
def UM {l:List α}(m:Nat){i:Int}{x:α}(h:gi l i=some x):Fa:=⟨.ald (.agg ((R.vals x).map .lit)),_,ldE R (m:=m) h⟩
def flf {l:List α}(m off:Nat){i:Int}{x:α}{v:Value}(h:gi l i=some x)(hv:(R.vals x)[off]?=some v):Fa:=⟨.ald (.lit v),_,ldF R (m:=m) (off:=off) h hv⟩
def fsE {l l':List α}(m:Nat){i:Int}{x':α}(h:H8 l i x'=some l'):Fa:=⟨.ast (DE (l'.map R.vals) m),_,stE R (m:=m) h⟩
def fap {b:Nat}{l z ys:List α}(hy:ys≠[])(h:Cs b l ys=some z):Fa:=⟨.val (.prv (z.map R.vals)),_,apP R hy h⟩
end
section
variable {P:Program} {L:Cf} {N:Nat} {Q:AX->St->Prop} {x:List TI×St} {α:Type}
def Abr (st:St)(l:Vl.Loc)(xs:List (List Value))(n cap m:Nat):St:=setL (Wc (setL st l .undef) (DE xs m)) l (.asl st.σ.length 0 n cap)
theorem thR (R:Rl α)(lc:Vl.Loc)(l:List α)(n:Nat)(hn:l.length=n)(hne:l≠[])(h:∀ cap m,l.length<=cap->cap*R.n=n*R.n+m->WX P L N Q (Mx 99 x.1,Abr x.2 lc (l.map R.vals) n cap m))
 (he:(ZN x&&NU lc,AW x.2 lc)=(true,.prv (l.map R.vals)):=by kernel_rfl):WX P L N Q x:=by
 refine thX lc (l.map R.vals) (by simpa using hne) (fun cap m sz h1 h2 h3=>?_) he
 obtain⟨y,r,rfl⟩:∃ y r,l=y::r:=by cases l with|nil=>exact absurd rfl hne|cons y r=>exact⟨y,r,rfl⟩
 obtain rfl:R.n=sz:=by rw [<- h3 (R.vals y) (by simp),R.len]
 have e:((y::r).map R.vals).length=n:=by rw [Í];exact hn
 have h4:=h cap m (by rw [<- hn] at *;rw [Í] at h1;exact h1) (by rw [<- e];exact h2)
 unfold Abr at h4
 unfold Wn
 rw [e];exact h4
theorem unR (R:Rl α)(lc:Vl.Loc)(l:List α)(p n cap m:Nat)(hn:l.length=n)(hne:l≠[])(hsz:cap*R.n=n*R.n+m)(h:WX P L N Q (Mx 99 x.1,Wl x.2 lc p (l.map R.vals)))
 (he:((ZN x&&NU lc)&&((Nat.ble N p&&Nat.beq x.2.σ.length (p+1))&&(Zv p lc&&((setL x.2 lc .undef).env.all (fun z=>(Cr (setL x.2 lc .undef).env z.1).fits p&&MI p (Cr (setL x.2 lc .undef).env z.1))&&Ei p ((setL x.2 lc .undef).σ.take p)))),AW x.2 lc,x.2.σ[p]?)=(true,.asl p 0 n cap,some (DE (l.map R.vals) m)):=by kernel_rfl):WX P L N Q x:=by
 subst hn
 have e:(l.map R.vals).length=l.length:=Í _
 refine unX lc (l.map R.vals) p cap m (by simpa using hne) (sz:=R.n) (by rw [e];exact hsz) (R.row l) h ?_
 rw [e];exact he
theorem poR (R:Rl α)(row:α->List PV)(lc:Vl.Loc)(l:List α)(h:WX P L N Q (Mx 99 x.1,setL (setL x.2 lc .undef) lc (.sl (l.map row) .own)))(hr:∀ x,(R.vals x).map PV.lit=row x:=by intro _;rfl)
 (he:(ZN x&&NU lc,AW x.2 lc)=(true,.prv (l.map R.vals)):=by kernel_rfl):WX P L N Q x:=by
 refine poX lc (l.map R.vals) ?_ he
 have e:(l.map R.vals).map (fun x=>x.map PV.lit)=l.map row:=by rw [List.map_map];exact List.map_congr_left fun x _=>hr x
 rw [e];exact h
theorem hwX (t:Nat)(h:WX P L N Q (Mx 99 x.1,x.2.put (some t) (.mit [] [77])))(he:ZN x=true:=by kernel_rfl):WX P L N Q x :=
 Z0 he (G9.of (st2:=x.2.put (some t) (.mit [] [77])) (fun w0 G0 tm w G _ hI=>⟨G,by have:=hI.put t (p:=.mit [] [77]) (.mit _ _ _ (tm t)) trivial;rwa [H2] at this⟩) rfl) fun s hs=>by subst hs;exact h
theorem J3 {l:List α}(h:l.isEmpty=false):l≠[]:=by simpa using h
theorem U4 {l:List α}(h:l.isEmpty=true):l=[]:=by simpa using h
theorem HM {l:List α}{n:Nat}(h:(l.length == n)=true):l.length=n:=by simpa using h
theorem NP {l r:List α}(h:r.length=l.length)(hl:l≠[]):r≠[]:=by rintro rfl;exact hl (â h.symm)
end
end Go.Sp
namespace Go.Vl
open Go Go.RowKit
structure RV (b:Nat) (w w':World):Prop where
 os:w'.os=w.os
 tape:w'.tape=w.tape
 output:w'.output=w.output
 size:w.heap.size<=w'.heap.size
 same:∀ k,k<w.heap.size->k≠b->w'.heap[k]?=w.heap[k]?
structure MC (G:Gh) (b:Nat):Prop where
 phi:b∉G.φ
 own:G.Ω b=none
 noU:∀ i,¬ G.U b i
section
variable {w w' w0:World} {G G' G0:Gh} {st st':St} {tm:Nat->Value} {b c:Nat} {σ:List (List PV)} {p:PV} {v:Value} {N:Nat}
theorem RV.putObj (w:World)(b:Nat)(o:Obj):RV b w (w.putObj b o):=⟨rfl,rfl,rfl,by simp,fun k _ h=>World.putObj_heap_other h⟩
theorem RV.alloc (w:World)(b:Nat)(o:Obj):RV b w (w.alloc o):=⟨rfl,rfl,rfl,by simp,fun k h _=>é w o k h⟩
theorem MC.ext (h:MC G b)(hl:b<w.heap.size)(hx:Ext w G w' G'):MC G' b:=by
 obtain⟨ψ,hφ,hψ⟩:=hx.phi
 refine⟨fun hm=>?_,?_,fun i hu=>?_⟩
 . rw [hφ] at hm
   rcases List.mem_append.1 hm with hm|hm
   . exact h.phi hm
   . rcases hψ b hm with k|k
     . omega
     . exact k h.own
 . cases e:G'.Ω b with
   |none=>rfl
   |some l =>
    rcases hx.newΩ b (by rw [e];simp) with k|k
    . omega
    . exact absurd h.own k
 . rcases hx.newU b i hu with k|k|k
   . exact h.noU i k
   . omega
   . exact k h.own
theorem MC.same (h:MC G b)(hl:b<w.heap.size)(hx:Ext w G w' G'):w'.heap[b]?=w.heap[b]?:=hx.frame b hl h.phi h.own
theorem A1.phi_lt (h:A1 w G σ)(hb:b∈G.φ):b<w.heap.size:=by
 obtain⟨k,hk,he⟩:=õ hb
 have h2:k<σ.length:=by rw [<- h.len];exact hk
 obtain⟨⟨o,arr,h3,_⟩,_⟩:=h.blk k b σ[k] (by rw [Ã hk,he]) (Ã h2)
 exact (Array.getElem?_eq_some_iff.1 h3).1
theorem A1.fresh (h:A1 w G σ)(hb:w.heap.size<=b):MC G b:=by
 refine⟨fun hm=>?_,?_,fun i hu=>?_⟩
 . have:=h.phi_lt hm;omega
 . cases e:G.Ω b with
   |none=>rfl
   |some l=>have:=(h.ob b (by rw [e];simp)).1;omega
 . have:=h.ub b i hu;omega
theorem V.but (hs:A1 w G σ)(hu:MC G b)(hb:RV b w w'){φ:List Nat}(h:V w G.U φ p v):V w' G.U φ p v :=
 h.mono (fun b2 i hu2=>⟨hu2,Kp.of (hb.same b2 (hs.ub b2 i hu2) (fun e=>hu.noU i (e ▸ hu2)))⟩) (fun _ _ h=>h)
theorem L2 (hs:A1 w G σ)(hu:MC G b)(hb:RV b w w'){l:Loc}:∀ b2,G.Ω b2=some l->G.Ω b2=some l/\w'.heap[b2]?=w.heap[b2]?/\∀ i,G.U b2 i->G.U b2 i:=fun b2 h =>
 ⟨h,hb.same b2 (hs.ob b2 (by rw [h];simp)).1 (fun e=>by rw [e,hu.own] at h;cases h),fun _ h=>h⟩
theorem A1.but (h:A1 w G σ)(hu:MC G b)(hb:RV b w w'):A1 w' G σ:=by
 refine⟨h.len,h.nodup,fun k b1 cs h1 h2=>?_,fun b1 i hu1=>ï (h.ub b1 i hu1) hb.size,fun b1 hB=>⟨ï (h.ob b1 hB).1 hb.size,(h.ob b1 hB).2⟩⟩
 obtain⟨⟨T,arr,h3,h4,h5⟩,h6⟩:=h.blk k b1 cs h1 h2
 have hlt:b1<w.heap.size:=(Array.getElem?_eq_some_iff.1 h3).1
 have hne:b1≠b:=fun e=>hu.phi (e ▸ Ò h1)
 refine⟨⟨T,arr,(hb.same b1 hlt hne).trans h3,⟨h4.1.mono (fun b2 i hu2=>⟨hu2,Kp.of (hb.same b2 (h.ub b2 i hu2) (fun e=>hu.noU i (e ▸ hu2)))⟩),h4.2⟩,fun j c hc=>?_⟩,h6⟩
 obtain⟨v,h7,h8,h9,h10⟩:=h5 j c hc
 refine⟨v,h7,h8,h9.but h hu hb,?_⟩
 unfold Cj at h10 ⊢
 split
 . exact A2.keep h10 (L2 h hu hb)
 . exact BE.keep h10 (L2 h hu hb)
 . trivial
theorem HT.but (hs:A1 w G st.σ)(h:HT w G st tm)(hu:MC G b)(hb:RV b w w'):HT w' G st tm:=by
 refine⟨fun t=>(h.v t).but hs hu hb,fun t=>?_⟩
 have ht:=h.tag t
 revert ht
 generalize st.get t=p
 generalize tm t=v
 intro ht
 cases p with
 |sl xs g=>cases g with
  |own=>exact A2.keep (show A2 w G (.tmp t) xs v from ht) (L2 hs hu hb)
  |view l=>cases l with
   |cell k j =>
    obtain⟨cs,b1,h1,h2,h3,h4⟩:=ht
    have hm:=Ò h3
    exact⟨cs,b1,h1,h2,h3,(ċ (w:=w) (hb.same b1 (hs.phi_lt hm) (fun e=>hu.phi (e ▸ hm)))).trans h4⟩
   |_=>exact ht
  |_=>trivial
 |prv xs=>exact BE.keep (show BE w G (.tmp t) xs v from ht) (L2 hs hu hb)
 |tup cs =>
  intro i xs hi
  obtain⟨arr,u,k1,k2,k3⟩:=ht i xs hi
  exact⟨arr,u,k1,k2,A2.keep k3 (L2 hs hu hb)⟩
 |_=>trivial
theorem Ext.but (h:Ext w0 G0 w G)(hs:A1 w G σ)(hu:MC G b)(hn:w0.heap.size<=b∨b∈G0.φ∨G0.Ω b≠none)(hb:RV b w w'):Ext w0 G0 w' G:=by
 refine⟨hb.os.trans h.os,hb.tape.trans h.tape,hb.output.trans h.output,ğ h.size hb.size,fun k h1 h2 h3=>?_,fun b2 i hu2=>?_,h.newU,h.newΩ,h.phi⟩
 . rw [hb.same k (ï h1 h.size) ?_,h.frame k h1 h2 h3]
   rintro rfl
   rcases hn with k1|k1|k1
   . omega
   . exact h2 k1
   . exact k1 h3
 . obtain⟨k1,k2⟩:=h.cells b2 i hu2
   exact⟨k1,k2.trans (Kp.of (hb.same b2 (hs.ub b2 i k1) (fun e=>hu.noU i (e ▸ k1))))⟩
theorem Inv.but (h:Inv w0 G0 st tm w G)(hu:MC G b)(hn:w0.heap.size<=b∨b∈G0.φ∨G0.Ω b≠none)(hb:RV b w w'):Inv w0 G0 st tm w' G :=
 ⟨h.ext.but h.store hu hn hb,h.store.but hu hb,h.env.but h.store hu hb⟩
def Gh.reb (G:Gh)(N:Nat):Gh:={ U:=G.U,φ:=G.φ.take N,Ω:=fun b=>if b∈G.φ.drop N then some (.tmp 0) else G.Ω b }
theorem Ys:Ext w (G.reb N) w G:=by
 refine⟨rfl,rfl,rfl,Þ _,fun _ _ _ _=>rfl,fun _ _ h=>⟨h,Kp.refl⟩,fun _ _ h=>.inl h,fun b hb=>.inr ?_,G.φ.drop N,(Ć N G.φ).symm,fun b hb=>.inr ?_⟩
 . show (if b∈G.φ.drop N then some (Loc.tmp 0) else G.Ω b)≠none
   split
   . simp
   . exact hb
 . show (if b∈G.φ.drop N then some (Loc.tmp 0) else G.Ω b)≠none
   rw [Ç hb];simp
theorem Ext.drop_new (h:Ext w0 G0 w G)(hN:G0.φ.length<=N)(hb:b∈G.φ.drop N):w0.heap.size<=b∨G0.Ω b≠none:=by
 obtain⟨ψ,hφ,hψ⟩:=h.phi
 rw [hφ,List.drop_append,č hN,Ā] at hb
 exact hψ b (æ hb)
theorem Ext.reb (h:Ext w0 G0 w G)(hN:G0.φ.length<=N):Ext w0 G0 w (G.reb N):=by
 refine⟨h.os,h.tape,h.output,h.size,h.frame,h.cells,h.newU,fun b hb=>?_,?_⟩
 . change (if b∈G.φ.drop N then some (Loc.tmp 0) else G.Ω b)≠none at hb
   split at hb
   . rename_i hm;exact h.drop_new hN hm
   . exact h.newΩ b hb
 . obtain⟨ψ,hφ,hψ⟩:=h.phi
   refine⟨ψ.take (N-G0.φ.length),?_,fun b hb=>hψ b (ý hb)⟩
   show G.φ.take N=_
   rw [hφ,List.take_append,List.take_of_length_le hN]
theorem C8.reb (h:C8 w G):C8 w (G.reb N):=by
 refine⟨h.1,fun b hb=>?_⟩
 obtain⟨h1,h2,h3⟩:=h.2 b hb
 refine⟨h1,fun hm=>h2 (ý hm),?_⟩
 show (if b∈G.φ.drop N then some (Loc.tmp 0) else G.Ω b)=none
 rw [Å (fun hm=>h2 (æ hm))];exact h3
theorem MC.reb (h:MC G b):MC (G.reb N) b:=by
 refine⟨fun hm=>h.phi (ý hm),?_,h.noU⟩
 show (if b∈G.φ.drop N then some (Loc.tmp 0) else G.Ω b)=none
 rw [Å (fun hm=>h.phi (æ hm))];exact h.own
end
end Go.Vl
namespace Go.Vl
open Go Go.RowKit
def Iter (P:Program)(gf:FuncId)(lb:Array Value)(ba:Nat)(H:World->Prop)(xs:List Int):Prop :=
 ∀ W:World,H W->∀ (l:Nat) (J Jx:List Int->World->Prop),
  (∀ s A B,J s A->RV ba A B->J s B)->(∀ s A B,Jx s A->RV ba A B->Jx s B) ->
  (∀ pre x W1,J pre W1->pre++[x] <+: xs->YieldAt (FT none) 0 P l #[.int .i64 x] W1 fun e W' =>
   (e=.returned (.bool true)/\J (pre++[x]) W'/\W'.heap[ba]?=W1.heap[ba]?)∨(e=.returned (.bool false)/\Jx (pre++[x]) W')) ->
  J [] W ->
  CallsIn (FT none) 0 P gf (#[.func (.yield l) #[] #[]]++lb) W fun e W'=>(∃ v,e=.returned v)/\(J xs W'∨∃ pre,Jx pre W')
abbrev Ld (z:Int):List Value:=[.int .i64 z]
def ZK (P:Program)(gf:FuncId)(zs xs:List Int):Prop :=
 ∀ (b0 ba cap:Nat) (T Ta:TypeId) (arr:Array Value),b0≠ba->zs.length<=cap->cap<=9223372036854775807->(∀ i (h:i<zs.length),arr[i]?=some (.int .i64 zs[i])) ->
  Iter P gf #[.pointer (some ⟨b0,0,none⟩)] ba (fun W=>W.heap[b0]?=some (.cells #[.slice (some ⟨ba,0,none⟩) zs.length cap] T (0,0))/\W.heap[ba]?=some (.cells arr Ta (0,0))) xs
def Rnd (m:Nat)(X:List (List PV)->Prop)(st:St):Prop:=G9 m st fun st2=>Ei m (st2.σ.take m)=true/\X (st2.σ.take m)
def UJ (m:Nat)(env0:List (Nat×PV))(I:List (List PV)->Prop)(KA:AX->St->Prop)(x:AX)(st:St):Prop :=
 match x with
 |.normal=>Rnd m I st
 |.pan _=>False
 |x=>Rnd m (fun σ=>KA x ⟨env0,σ⟩) st
def ZI (P:Program)(L:Cf)(N:Nat)(g:Operand)(ps:Array Tmp)(assign body:Code)(KA:AX->St->Prop)(st:St):Prop :=
 ∃ (m gf tv:Nat) (σm:List (List PV)) (env0:List (Nat×PV)) (zs xs:List Int) (I:List Int->List (List PV)->Prop),
  (st.σ=σm++[[.prv (zs.map Ld)]]/\σm.length=m/\N<=m/\Ei m σm=true/\zs≠[]) /\
  (Cu st g=.fn gf [.ptr m 0]/\Jb P gf=true/\ps = #[tv]/\ZK P gf zs xs) /\
  (∀ t,Cr env0 t=.undef∨(Cr env0 t=st.get t/\plain (st.get t)=true/\(st.get t).fits m=true)) /\
  (I [] σm/\∀ pre σ',I pre σ'->σ'.length=m) /\
  (∀ pre x σ',I pre σ'->pre++[x] <+: xs->WS P L m [.code assign] (fun ax st2=>ax=.normal/\st2.σ.length=m/\WS P L m [.code body] (UJ m env0 (I (pre++[x])) KA) st2) ⟨(tv,.lit (.int .i64 x))::env0,σ'⟩) /\
  ∀ σ',I xs σ'->KA .normal ⟨env0,σ'⟩
def Abx:Code->Option AX
 |.ret=>some .ret
 |.exit id=>some (.exit id)
 |_=>none
def Nq (D:Nat):Deferred:={ target:=.collected D,args:=#[] }
structure Over (w0:World) (G0:Gh) (a:Act) (D:Nat) (st:St) (w:World) (G:Gh):Prop where
 inv:Inv w0 G0 st (AK a) w G
 unc:MC G D
 lt:D<w.heap.size
 ge:w0.heap.size<=D
 is:w.heap[D]?=some (.deferred (some []))
section
variable {w w' w0:World} {G G' G0:Gh} {P:Program} {st st':St} {a:Act} {n N:Nat} {L:Cf} {KA:AX->St->Prop} {Q:Exit->Act->World->Prop}
def Gh.lose (G:Gh)(m ba:Nat):Gh:={ U:=G.U,φ:=G.φ.take m,Ω:=fun b=>if b=ba then none else G.Ω b }
theorem Aer {m ba:Nat}{σm:List (List PV)}{c1:List PV}(h:Inv w0 G0 st (AK a) w G)(hσ:st.σ=σm++[c1])(hm:σm.length=m)(hN:G0.φ.length<=m)(hf:Ei m σm=true)(hba:G.Ω ba=some (.cell m 0)){env0:List (Nat×PV)}
 (he:∀ t,Cr env0 t=.undef∨(Cr env0 t=st.get t/\plain (st.get t)=true/\(st.get t).fits m=true)):Inv w0 G0 ⟨env0,σm⟩ (AK a) w (G.lose m ba):=by
 have ht:st.σ.take m=σm:=by rw [hσ,List.take_left' hm]
 have hΩ:∀ b,(G.lose m ba).Ω b≠none->G.Ω b≠none:=fun b hb=>by
  change (if b=ba then none else G.Ω b)≠none at hb
  split at hb
  . exact absurd rfl hb
  . exact hb
 refine⟨?_,?_,⟨fun t=>?_,fun t=>?_⟩⟩
 . have hx:=h.ext
   refine⟨hx.os,hx.tape,hx.output,hx.size,hx.frame,hx.cells,hx.newU,fun b hb=>hx.newΩ b (hΩ b hb),?_⟩
   obtain⟨ψ,hφ,hψ⟩:=hx.phi
   refine⟨ψ.take (m-G0.φ.length),?_,fun b hb=>hψ b (ý hb)⟩
   show G.φ.take m=_
   rw [hφ,List.take_append,List.take_of_length_le hN]
 . have hs:=h.store.take (N:=m) (by rw [ht];exact hf)
   rw [ht] at hs
   refine⟨hs.len,hs.nodup,fun k b cs h1 h2=>?_,hs.ub,fun b hb=>hs.ob b (hΩ b hb)⟩
   obtain⟨⟨T,arr,h3,h4,h5⟩,h6⟩:=hs.blk k b cs h1 h2
   have hk:k<m:=by rw [<- hm];exact (List.getElem?_eq_some_iff.1 h2).1
   have keep:∀ (j:Nat) (b2:Nat),G.Ω b2=some (.cell k j)->(G.lose m ba).Ω b2=some (.cell k j)/\w.heap[b2]?=w.heap[b2]?/\∀ i,(G.lose m ba).U b2 i->G.U b2 i:=fun j b2 hb2=>by
    refine⟨?_,rfl,fun _ h=>h⟩
    show (if b2=ba then none else G.Ω b2)=_
    rw [Å,hb2]
    rintro rfl
    rw [hba] at hb2
    cases hb2;omega
   refine⟨⟨T,arr,h3,h4,fun j c hc=>?_⟩,h6⟩
   obtain⟨v,h7,h8,h9,h10⟩:=h5 j c hc
   refine⟨v,h7,h8,h9,?_⟩
   unfold Cj at h10 ⊢
   split
   . exact A2.keep (G:=G) h10 (keep j)
   . exact BE.keep (G:=G) h10 (keep j)
   . trivial
 . show V w G.U (G.φ.take m) (Cr env0 t) _
   rcases he t with k|⟨k1,_,k3⟩
   . rw [k];exact .undef _ _
   . rw [k1];exact (h.env.v t).fits k3
 . show DS _ _ _ _ t (Cr env0 t) _
   rcases he t with k|⟨k1,k2,_⟩
   . rw [k];trivial
   . rw [k1];exact E1 k2 _ _ _ _
theorem Ve {m:Nat}{σm:List (List PV)}{zs:List Int}(h:A1 w G st.σ)(hσ:st.σ=σm++[[.prv (zs.map Ld)]])(hm:σm.length=m)(hz:zs≠[]) :
 ∃ b0 ba cap T Ta,∃ arr:Array Value,G.φ[m]?=some b0/\G.Ω ba=some (.cell m 0)/\(∀ i,¬ G.U ba i)/\b0≠ba/\zs.length<=cap/\cap<=9223372036854775807/\(∀ i (h:i<zs.length),arr[i]?=some (.int .i64 zs[i])) /\
  w.heap[b0]?=some (.cells #[.slice (some ⟨ba,0,none⟩) zs.length cap] T (0,0))/\w.heap[ba]?=some (.cells arr Ta (0,0)):=by
 have hl:=h.len
 rw [hσ] at hl
 simp only [Õ,Ý,ë,hm] at hl
 have h0:G.φ[m]?=some (G.φ[m]'(by omega)):=Ã _
 revert h0
 generalize (G.φ[m]'(by omega))=b0
 intro h0
 have s0:st.σ[m]?=some [.prv (zs.map Ld)]:=by rw [hσ,ß (by omega),hm];simp
 obtain⟨⟨o0,arr0,k1,⟨k2,k3⟩,k4⟩,_⟩:=h.blk m b0 _ h0 s0
 have c0:∃ T,o0=.cells arr0 T (0,0):=by
  rcases k2 with k2|⟨kvs,es,c,k2,_⟩|⟨kvs,seen,k2,_⟩
  . exact k2.1
  . cases k2
  . cases k2
 obtain⟨T,rfl⟩:=c0
 obtain⟨v,v1,v2,v3,v4⟩:=k4 0 _ rfl
 have v5:BE w G (.cell m 0) (zs.map Ld) v:=v4
 rcases v5 with⟨e1,_⟩|⟨ba,cap,sz,Ta,arr,rfl,hne,⟨hc1,hc2⟩,hsz,hΩ,hheap,⟨ha1,ha2,ha3⟩,hU⟩
 . exact absurd (List.map_eq_nil_iff.1 e1) hz
 have hs1:sz=1:=by
  cases zs with
  |nil=>exact absurd rfl hz
  |cons z zs=>have:=hsz (Ld z) (by simp);exact this.symm
 subst hs1
 rw [Í] at hc1 v1
 refine⟨b0,ba,cap,T,Ta,arr,h0,hΩ,hU,?_,hc1,hc2,fun i hi=>?_,?_,hheap⟩
 . rintro rfl
   exact (h.ob _ (by rw [hΩ];simp)).2 (Ò h0)
 . have:=ha3 i (by simpa using hi) 0 (by simp)
   rw [Nat.mul_one,Nat.add_zero] at this
   have hlt:i<arr.size:=by omega
   rw [É,à hlt] at this
   rw [à hlt]
   simp at this
   rw [this]
 . rw [k1]
   have hz:arr0 = #[.slice (some ⟨ba,0,none⟩) zs.length cap]:=by
    have h3:arr0.size=1:=k3
    apply Array.ext'
    have:arr0.toList.length=1:=h3
    match hh:arr0.toList,this with
    | [x],_ =>
     have:arr0[0]?=some x:=by rw [<- ć,hh];rfl
     rw [v1] at this
     obtain rfl:=Af this
     rfl
   rw [hz]
theorem TG (hgl:C8 w0 G0)(hm:P.follows .mixedOrders=true)(hN:G0.φ.length<=N){g:Operand}{ps:Array Tmp}{assign body:Code}(hok:Cm L.pl n assign=true/\Cm L.pl n body=true)
 (hnd:Dg assign=true/\Dg body=true) (htv:∀ t∈ps.toList,t<n) (h:Inv w0 G0 st (AK a) w G) (hs:a.tmps.size=n) (hr:ZI P L N g ps assign body KA st)
 (hdone:∀ D st' w' G',Over w0 G0 a D st' w' G'->KA .normal st'->Q .normal { a with defers:=Nq D::a.defers } w')
 (hstop:∀ D c x st' w' G',Abx c=some x->Over w0 G0 a D st' w' G'->KA x st'->c.wpIn (FT none) 0 P Q { a with defers:=Nq D::a.defers } w') :
 (Code.rangeFunc g ps assign body).wpIn (FT none) 0 P Q a w:=by
 obtain⟨m,gf,tv,σm,env0,zs,xs,I,⟨hσ,hml,hNm,hfit,hzne⟩,⟨hg,hct,rfl,hit⟩,henv,⟨hI0,hIl⟩,hround,hfin⟩:=hr
 have htv:tv<n:=htv tv (by simp)
 have hN2:G0.φ.length<=m:=by omega
 obtain⟨b0,ba,cap,T,Ta,arr,hb0,hba,hbaU,hne,hc,hcm,harr,hw0,hwa⟩:=Ve h.store hσ hml hzne
 have hgv:a.eval g=.func (.func gf) #[] #[.pointer (some ⟨b0,0,none⟩)]:=by
  have hv:=B3 (a:=a) h.env g
  rw [hg] at hv
  revert hv;generalize a.eval g=z;intro hv
  cases hv with
  |fn _ _ _ arrc hn hcaps =>
   have h1:=hcaps 0 (by simp)
   have e1:arrc = #[arrc.getD 0 Go.undef]:=by
    apply Array.ext
    . simpa using hn
    . intro i h1 h2
      have:i=0:=by simp at h2;exact h2
      subst this
      simp [Array.getD,h1]
   have h2:arrc.getD 0 Go.undef=.pointer (some ⟨b0,0,none⟩):=by
    revert h1;generalize arrc.getD 0 Go.undef=z;intro h1
    cases h1 with
    |ptr _ _ _ k hk=>rw [hb0] at hk;obtain rfl:=Af hk;rfl
   rw [e1,h2]
 have hd:=Aer h hσ hml hN2 hfit hba henv
 have hlen0:=h.store.len
 rw [hσ] at hlen0
 simp only [Õ,Ý,ë,hml] at hlen0
 have hba_ob:=h.store.ob ba (by rw [hba];simp)
 have hba_lt:ba<w.heap.size:=hba_ob.1
 have hua:MC (G.lose m ba) ba:=⟨fun hmem=>hba_ob.2 (ý hmem),by show (if ba=ba then none else G.Ω ba)=none;rw [Ç rfl],hbaU⟩
 have hban:w0.heap.size<=ba∨ba∈G0.φ∨G0.Ω ba≠none:=by
  rcases h.ext.newΩ ba (by rw [hba];simp) with k|k
  . exact .inl k
  . exact .inr (.inr k)
 refine wpIn_rangeFunc ?_
 intro fn hfn
 obtain⟨rec,hrec⟩:∃ rec:LoopState->Option Code->Loop,rec=fun st pe=>{ state:=st,pending:=pe,fn,tmps:=a.tmps,params:=#[tv],assign,body,defers:=w.heap.size }:=⟨_,rfl⟩
 obtain⟨D,hD⟩:∃ D,D=w.heap.size:=⟨_,rfl⟩
 obtain⟨W1,hW1⟩:∃ W1,(w.alloc (.deferred (some []))).alloc (.loop (rec .ready none))=W1:=⟨_,rfl⟩
 have hbut1:RV D w (w.alloc (.deferred (some []))):=.alloc _ _ _
 have hbut2:RV (D+1) (w.alloc (.deferred (some []))) W1:=by rw [<- hW1];exact .alloc _ _ _
 have hs1:W1.heap.size=w.heap.size+2:=by rw [<- hW1];simp
 have hL1:W1.heap[D+1]?=some (.loop (rec .ready none)):=by
  rw [<- hW1,hD];have:=World.alloc_heap_new (w.alloc (.deferred (some []))) (.loop (rec .ready none));rwa [World.size_alloc] at this
 have hK1:W1.heap[D]?=some (.deferred (some [])):=by
  rw [<- hW1,hD];exact (é _ _ _ (by simp)).trans (World.alloc_heap_new w _)
 have hge:w0.heap.size<=D:=by rw [hD];exact h.ext.size
 have huD:MC (G.lose m ba) D:=hd.store.fresh (by omega)
 have huL:MC (G.lose m ba) (D+1):=hd.store.fresh (by omega)
 have hinv1:Inv w0 G0 ⟨env0,σm⟩ (AK a) W1 (G.lose m ba):=(hd.but huD (.inl hge) hbut1).but huL (.inl (by omega)) hbut2
 have hold:∀ k,k<w.heap.size->W1.heap[k]?=w.heap[k]?:=fun k hk=>by rw [hbut2.same k (by simp;omega) (by omega),hbut1.same k hk (by omega)]
 obtain⟨J,hJ⟩:∃ J:List Int->World->Prop,J=fun pre W=>∃ σ' G',I pre σ'/\Inv w0 G0 ⟨env0,σ'⟩ (AK a) W G'/\MC G' ba/\MC G' (D+1)/\MC G' D/\ba<W.heap.size/\W.heap[D+1]?=some (.loop (rec .ready none))/\W.heap[D]?=some (.deferred (some [])):=⟨_,rfl⟩
 obtain⟨Jx,hJx⟩:∃ Jx:List Int->World->Prop,Jx=fun _ W=>∃ c x σ' G',Abx c=some x/\KA x ⟨env0,σ'⟩/\Inv w0 G0 ⟨env0,σ'⟩ (AK a) W G'/\MC G' ba/\MC G' (D+1)/\MC G' D/\ba<W.heap.size/\W.heap[D+1]?=some (.loop (rec .done (some c)))/\W.heap[D]?=some (.deferred (some [])):=⟨_,rfl⟩
 have hbaD:ba≠D/\ba≠D+1:=by omega
 have step:∀ {A B:World},RV ba A B->∀ {k:Nat} {o:Obj},k≠ba->A.heap[k]?=some o->B.heap[k]?=some o:=fun hb k o hk ho=>(hb.same k (Array.getElem?_eq_some_iff.1 ho).1 hk).trans ho
 refine⟨D+1,[Nq D],W1,{ target:=.fn (.func gf) #[.pointer (some ⟨b0,0,none⟩)],args:=#[.func (.yield (D+1)) #[] #[]] },W1,gf,#[.func (.yield (D+1)) #[] #[]]++#[.pointer (some ⟨b0,0,none⟩)],W1,?_,?_,fun _ _=>trivial,?_,KF,?_⟩
 . rw [<- hW1,hrec,hD];exact run_enterLoop_outer _ _ _ _ _
 . simp only [resolve,hgv]
   simp [go_sem]
 . simp [invoke,go_sem,JC hct]
 refine ((hit b0 ba cap T Ta arr hne hc hcm harr) W1 ⟨(hold b0 (Array.getElem?_eq_some_iff.1 hw0).1).trans hw0,(hold ba hba_lt).trans hwa⟩ (D+1) J Jx ?_ ?_ ?_ ?_).mono ?_
 . intro s A B hA hb
   rw [hJ] at hA ⊢
   obtain⟨σ',G',h1,h2,h3,h4,h5,h6,h7,h8⟩:=hA
   exact⟨σ',G',h1,h2.but h3 hban hb,h3,h4,h5,ï h6 hb.size,step hb (ė hbaD.2) h7,step hb (ė hbaD.1) h8⟩
 . intro s A B hA hb
   rw [hJx] at hA ⊢
   obtain⟨c,x,σ',G',h0,h1,h2,h3,h4,h5,h6,h7,h8⟩:=hA
   exact⟨c,x,σ',G',h0,h1,h2.but h3 hban hb,h3,h4,h5,ï h6 hb.size,step hb (ė hbaD.2) h7,step hb (ė hbaD.1) h8⟩
 . -- one round
   intro pre x W hA hpre
   rw [hJ] at hA
   obtain⟨σ',G',hI,hinv,hua',hul',huD',halt,hl,hk⟩:=hA
   have hllt:D+1<W.heap.size:=(Array.getElem?_eq_some_iff.1 hl).1
   have hy:=run_yield (P:=P) (args:=#[.int .i64 x]) hl (by rw [hrec];rfl)
   rw [hrec] at hy
   have hy2:(Instr.yield (D+1) #[.int .i64 x]).run P W=.ok (.round (D+1) fn (a.tmps.setIfInBounds tv (.int .i64 x)) assign body) W:=by simpa using hy
   refine⟨fn,_,assign,body,hy2,roundIn_of_wpIn hfn ?_⟩
   obtain⟨a0,ha0⟩:∃ a0:Act,a0 = { tmps:=a.tmps.setIfInBounds tv (.int .i64 x),defers:=[] }:=⟨_,rfl⟩
   have htm:∀ t,AK a0 t=if tv=t then .int .i64 x else AK a t:=fun t=>by
    have:=congrFun (Bs (a:=a) (d:=tv) (by omega) (.int .i64 x)) t
    rw [ha0];exact this
   have hlenm:G'.φ.length<=m:=by have:=hinv.store.len;have h2:=hIl pre σ' hI;simp only at this;omega
   have hinv0:Inv W G' ⟨(tv,.lit (.int .i64 x))::env0,σ'⟩ (AK a0) W G':=by
    refine⟨Ext.refl _ _,hinv.store,⟨fun t=>?_,fun t=>?_⟩⟩
    . rw [htm]
      show V W G'.U G'.φ (if tv=t then _ else Cr env0 t) _
      split
      . exact .lit _ _
      . exact hinv.env.v t
    . show DS _ _ _ _ t (if tv=t then _ else Cr env0 t) _
      split
      . trivial
      . rcases henv t with k|⟨k1,k2,_⟩
        . rw [k];trivial
        . rw [k1];exact E1 k2 _ _ _ _
   obtain⟨stA,GA,hWA,hinvA⟩:=hround pre x σ' hI hpre W G' (AK a0) W G' hlenm hinv0
   have hsz0:a0.tmps.size=n:=by rw [ha0];simpa using hs
   have hgoal:=QK (P:=P) (L:=L) (r:=some (D+1)) (ds:=[]) (hgl.ext hinv.ext) hm hlenm assign _ stA a0 W GA hok.1 (fun _=>hnd.1) hinvA (by rw [ha0]) hsz0 hWA
   rw [ha0] at hgoal
   refine wpIn_mono hgoal ?_
   rintro e1 a1 W2 hp
   cases e1 with
   |normal =>
    obtain⟨hsz1,hd1,st2,G2,⟨_,hl2,hbody⟩,hinv2⟩:=hp
    have hxA:=hinv2.ext
    have hl2':W2.heap[D+1]?=some (.loop (rec .ready none)):=(hul'.same hllt hxA).trans hl
    have hul2:=hul'.ext hllt hxA
    have hba2:=(hua'.same halt hxA)
    have hua2:=hua'.ext halt hxA
    have hDlt:D<W.heap.size:=by omega
    have hk2:=(huD'.same hDlt hxA).trans hk
    have huD2:=huD'.ext hDlt hxA
    obtain⟨W3,hW3⟩:∃ W3,W3=W2.putObj (D+1) (.loop { rec .ready none with state:=.busy }):=⟨_,rfl⟩
    have hb3:RV (D+1) W2 W3:=by rw [hW3];exact .putObj _ _ _
    have hx3:Ext w0 G0 W3 G2:=(hinv.ext.trans hxA).but hinv2.store hul2 (.inl (by omega)) hb3
    have inv3:Inv W3 G2 st2 (AK a1) W3 G2:=⟨Ext.refl _ _,hinv2.store.but hul2 hb3,hinv2.env.but hinv2.store hul2 hb3⟩
    have hs32:W2.heap.size=W3.heap.size:=by rw [hW3];simp
    have hs2:=hxA.size
    have hl3:W3.heap[D+1]?=some (.loop { rec .ready none with state:=.busy }):=by rw [hW3];exact World.putObj_heap_same (by omega)
    have hk3:W3.heap[D]?=some (.deferred (some [])):=by rw [hW3,World.putObj_heap_other (by omega)];exact hk2
    have hba3:W3.heap[ba]?=W.heap[ba]?:=by rw [hW3,World.putObj_heap_other hbaD.2];exact hba2
    have hlen2:G2.φ.length=m:=by rw [hinv2.store.len];exact hl2
    refine⟨W3,by rw [hW3];exact run_beginRound hl2' (by rw [hrec]),?_⟩
    obtain⟨stB,GB,hWB,hinvB⟩:=hbody W3 G2 (AK a1) W3 G2 (by omega) inv3
    refine wpIn_mono (QK (P:=P) (L:=L) (r:=some (D+1)) (ds:=[]) (hgl.ext hx3) hm (Ą hlen2) body _ stB a1 W3 GB hok.2 (fun _=>hnd.2) hinvB hd1 hsz1 hWB) ?_
    rintro e3 a3 W4 hp
    have fin:∀ (X:List (List PV)->Prop) (st3:St) (G3:Gh) (jump:Option Code),Rnd m X st3->Inv W3 G2 st3 (AK a3) W4 G3->∃ σ'' G5 W5,X σ''/\(Instr.endRound (D+1) jump).run P W4=.ok (.bool jump.isNone) W5/\Inv w0 G0 ⟨env0,σ''⟩ (AK a) W5 G5/\MC G5 ba/\MC G5 (D+1)/\MC G5 D /\
     ba<W5.heap.size/\W5.heap[D+1]?=some (.loop (rec (if jump.isNone then .ready else .done) jump))/\W5.heap[D]?=some (.deferred (some []))/\W5.heap[ba]?=W.heap[ba]?:=by
     intro X st3 G3 jump hX hinv3
     obtain⟨st4,G4,⟨hf4,hX4⟩,hinv4⟩:=hX W3 G2 (AK a3) W4 G3 (by omega) hinv3
     have hx4:=hinv4.ext.take hlen2
     have hs4:=hinv4.store.take hf4
     have hl4:W4.heap[D+1]?=some (.loop { rec .ready none with state:=.busy }):=(hul2.same (by omega) hx4).trans hl3
     have hul4:=hul2.ext (by omega) hx4
     have hua4:=hua2.ext (by omega) hx4
     have huD4:=huD2.ext (by omega) hx4
     have hk4:=(huD2.same (by omega) hx4).trans hk3
     have hba4:=(hua2.same (by omega) hx4).trans hba3
     have hz4:=hx4.size
     have hrun:=run_endRound (P:=P) jump hl4
     refine⟨_,_,W4.putObj (D+1) (.loop (rec (if jump.isNone then .ready else .done) jump)),hX4,by rw [hrec] at hrun ⊢;exact hrun,?_,hua4,hul4,huD4,by simp;omega,World.putObj_heap_same (by omega),by rw [World.putObj_heap_other (by omega)];exact hk4,by rw [World.putObj_heap_other hbaD.2];exact hba4⟩
     have hinv5:Inv w0 G0 ⟨env0,st4.σ.take m⟩ (AK a) W4 { G4 with φ:=G4.φ.take m }:=by
      refine⟨hx3.trans hx4,hs4,⟨fun t=>?_,fun t=>?_⟩⟩
      . exact hx4.V ((hxA.V (hinv.env.v t)).but hinv2.store hul2 hb3)
      . show DS _ _ _ _ t (Cr env0 t) _
        rcases henv t with k|⟨k1,k2,_⟩
        . rw [k];trivial
        . rw [k1];exact E1 k2 _ _ _ _
     exact hinv5.but hul4 (.inl (by omega)) (.putObj _ _ _)
    cases e3 with
    |normal =>
     obtain⟨_,_,st3,G3,hX,hinv3⟩:=hp
     obtain⟨σ'',G5,W5,k1,k2,k3,k4,k5,k6,k7,k8,k9,k10⟩:=fin _ st3 G3 none hX hinv3
     exact⟨_,_,k2,.inl ⟨rfl,by rw [hJ];exact⟨σ'',G5,k1,k3,k4,k5,k6,k7,k8,k9⟩,k10⟩⟩
    |ret =>
     obtain⟨_,_,st3,G3,hX,hinv3⟩:=hp
     obtain⟨σ'',G5,W5,k1,k2,k3,k4,k5,k6,k7,k8,k9,k10⟩:=fin (fun σ=>KA .ret ⟨env0,σ⟩) st3 G3 (some .ret) hX hinv3
     exact⟨_,_,k2,.inr ⟨rfl,by rw [hJx];exact⟨.ret,.ret,σ'',G5,rfl,k1,k3,k4,k5,k6,k7,k8,k9⟩⟩⟩
    |exit id =>
     obtain⟨_,_,st3,G3,hX,hinv3⟩:=hp
     obtain⟨σ'',G5,W5,k1,k2,k3,k4,k5,k6,k7,k8,k9,k10⟩:=fin (fun σ=>KA (.exit id) ⟨env0,σ⟩) st3 G3 (some (.exit id)) hX hinv3
     exact⟨_,_,k2,.inr ⟨rfl,by rw [hJx];exact⟨.exit id,.exit id,σ'',G5,rfl,k1,k3,k4,k5,k6,k7,k8,k9⟩⟩⟩
    |panic c=>obtain⟨_,st3,G3,hX,_⟩:=hp;exact hX.elim
    |goto t=>exact hp.elim
    |outgrown=>exact hp.elim
   |exit id=>obtain⟨_,_,_,_,⟨hax,_⟩,_⟩:=hp;cases hax
   |ret=>obtain⟨_,_,_,_,⟨hax,_⟩,_⟩:=hp;cases hax
   |panic c=>obtain⟨_,_,_,⟨hax,_⟩,_⟩:=hp;cases hax
   |goto t=>exact hp.elim
   |outgrown=>exact hp.elim
 . rw [hJ];exact⟨σm,_,hI0,hinv1,hua,huL,huD,by omega,hL1,hK1⟩
 . -- behind the iterator
   rintro e2 W2 ⟨⟨v,rfl⟩,hA|⟨pre,hA⟩⟩
   . rw [hJ] at hA
     obtain⟨σ',G',hI,hinv,hua',hul',huD',halt,hl,hk⟩:=hA
     have hlt2:=(Array.getElem?_eq_some_iff.1 hl).1
     have hrun:=run_endLoop (P:=P) hl (by rw [hrec];simp)
     rw [hrec] at hrun
     refine⟨none,_,hrun,hdone D _ _ G' ⟨hinv.but hul' (.inl (by omega)) (.putObj _ _ _),huD',by simp;omega,hge,by rw [World.putObj_heap_other (by omega)];exact hk⟩ (hfin σ' hI)⟩
   . rw [hJx] at hA
     obtain⟨c,x,σ',G',hj,hI,hinv,hua',hul',huD',halt,hl,hk⟩:=hA
     have hlt2:=(Array.getElem?_eq_some_iff.1 hl).1
     have hrun:=run_endLoop (P:=P) hl (by rw [hrec];simp)
     rw [hrec] at hrun
     exact⟨some c,_,hrun,hstop D c x _ _ G' hj ⟨hinv.but hul' (.inl (by omega)) (.putObj _ _ _),huD',by simp;omega,hge,by rw [World.putObj_heap_other (by omega)];exact hk⟩ hI⟩
end
end Go.Vl
namespace Go.Vl
open Go Go.RowKit
structure ZH where
 bid:Nat
 g:Operand
 ps:Array Tmp
 assign:Code
 body:Code
def ZH.code (t:ZH):Code:=.block t.bid (.rangeFunc t.g t.ps t.assign t.body)
def flat:Code->List Code
 |.seq a b=>flat a++flat b
 |c=>[c]
def Jh:List Code->Option (List Code×ZH×List Code)
 | []=>none
 |.block bid (.rangeFunc g ps assign body)::l=>some ([],⟨bid,g,ps,assign,body⟩,l)
 |c::l=>(Jh l).map fun r=>(c::r.1,r.2)
theorem Rt:∀ {l ags:List Code} {t:ZH} {bgs:List Code},Jh l=some (ags,t,bgs)->l=ags++t.code::bgs
 | [],_,_,_,h=>by cases h
 |c::l,ags,t,bgs,h=>by
  unfold Jh at h
  split at h
  . rename_i e;cases e
  . rename_i e
    obtain⟨rfl,rfl⟩:=List.cons.inj e
    simp only [Â,È] at h
    obtain⟨rfl,rfl,rfl⟩:=h
    rfl
  . rename_i e
    obtain⟨rfl,rfl⟩:=List.cons.inj e
    simp only [Ī,È,Prod.exists] at h
    obtain⟨a,t2,b2,h1,rfl,rfl,rfl⟩:=h
    rw [Rt h1];rfl
theorem Mh {P:Program}{Q:Exit->Act->World->Prop}{next:Act->World->Prop}:∀ (l1 l2:List Code),XW P Q (l1++l2) next=XW P Q l1 (XW P Q l2 next)
 | [],_=>rfl
 |c::l1,l2=>by
  show (fun a w=>c.wp P (Exit.then (XW P Q (l1++l2) next) Q) a w)=_
  rw [Mh l1 l2];rfl
theorem Abb {P:Program}{Q:Exit->Act->World->Prop}:∀ (c:Code) {next:Act->World->Prop} {a:Act} {w:World},XW P Q (flat c) next a w->c.wp P (Exit.then next Q) a w:=by
 intro c
 induction c with
 |seq x y ihx ihy =>
  intro next a w h
  have h:XW P Q (flat x++flat y) next a w:=h
  rw [Mh] at h
  refine wp_seq (wp_mono (ihx h) fun e a' w' hp=>?_)
  cases e with
  |normal=>exact ihy hp
  |_=>exact hp
 |_=>intro next a w h;exact h
theorem YV {P:Program}{Q:Exit->Act->World->Prop}{c:Code}{a:Act}{w:World}(h:XW P Q (flat c) (Q .normal) a w):c.wp P Q a w :=
 wp_mono (Abb c h) fun e a w h=>by cases e<;>exact h
def PL (P:Program)(L:Cf)(N:Nat)(t:ZH)(b:List Code)(Q:AX->St->Prop)(x:AX)(st:St):Prop:=match x with
 |.normal=>Bx (ZI P L N t.g t.ps t.assign t.body (KT P L N (.blk t.bid::(b.map TI.code++[.code .skip])) Q) st)
 |x=>Q x st
def okR (L:Cf)(n:Nat)(ags:List Code)(t:ZH)(b:List Code)(k:Nat):Bool :=
 ags.all (Cm L.pl n)&&(b.all (Cm L.pl n)&&(Cm L.pl n t.assign&&(Cm L.pl n t.body&&(Dg t.assign&&(Dg t.body&&(t.ps.toList.all (fun x=>decide (x<n))&&decide (k<=n)))))))
section
variable {w w' w0:World} {G G' G0:Gh} {P:Program} {st st':St} {a:Act} {n N:Nat} {L:Cf}
theorem VC.introR {f:FuncId}{fn:Func}{c:Code}{ags b:List Code}{t:ZH}{args:List PV}{σ:List (List PV)}{Q:Ck->List (List PV)->Prop}(L:Cf)
 (hf:P.funcs[f]?=some fn) (hb:fn.body=some c) (hm:P.follows .mixedOrders=true) (hs:Jh (flat c)=some (ags,t,b))
 (hok:okR L fn.ntmps ags t b args.length=true)
 (h:WS P L σ.length (ags.map TI.code++[.code .skip]) (PL P L σ.length t b (CH P fn σ.length Q)) (IG args σ)):VC P f args σ Q:=by
 unfold okR at hok
 simp only [Æ,Î,Û] at hok
 obtain⟨hoka,hokb,hok1,hok2,hnd1,hnd2,htv,hn⟩:=hok
 intro w G vs hst hvs hv hΩ hgl
 have hc:CallsIn Fence.wide 0 P f vs w (fun e w'=>∃ x σ' G',Q x σ'/\Dm w' G' x e/\A1 w' G' σ'/\Ext w G w' G'):=by
  refine callsIn_of_wp_marks hf hb trivial ((wpIn_wide (n:=0)).2 (YV ?_))
  rw [Rt hs,Mh]
  have hsz:(vs++Array.replicate (fn.ntmps-vs.size) Go.undef).size=fn.ntmps:=by simp;omega
  have hget:∀ t,(IG args σ).get t=match args[t]? with|some p=>Bg p|none=>.undef:=by
   intro t
   show Cr (args.zipIdx.map fun x=>(x.2,Bg x.1)) t=_
   rw [Lp args 0 t];simp;rfl
  have hinv:Inv w G (IG args σ) (AK { tmps:=vs++Array.replicate (fn.ntmps-vs.size) Go.undef,defers:=[] }) w G:=by
   refine⟨Ext.refl _ _,hst,⟨fun t=>?_,fun t=>?_⟩⟩
   . rw [hget]
     cases e:args[t]? with
     |none=>exact .undef _ _
     |some p =>
      have ht:=List.getElem?_eq_some_iff.1 e
      have:=hv t ht.1
      rw [ht.2] at this
      have e2:AK { tmps:=vs++Array.replicate (fn.ntmps-vs.size) Go.undef,defers:=[] } t=vs.getD t Go.undef:=by
       show (vs++_).getD t Go.undef=_
       rw [É,ó (by rw [hvs];exact ht.1),É]
      rw [e2];exact C2 this
   . rw [hget]
     cases e:args[t]? with
     |none=>trivial
     |some p=>exact E1 (Bt p) _ _ _ _
  have hN:G.φ.length=σ.length:=hst.len
  have hN':=Ą hN
  -- at the function's end
  have fin1:∀ (a:Act) (w1:World) (st:St) (G1:Gh),a.defers=[]->Inv w G st (AK a) w1 G1->CH P fn σ.length Q .ret st->LeavesInM Fence.wide 0 P fn a.tmps (fun e w'=>∃ x σ' G',Q x σ'/\Dm w' G' x e/\A1 w' G' σ'/\Ext w G w' G') a.defers .returning w1:=by
   intro a w1 st G1 hd hI hq
   rw [hd]
   exact LB hN hI hq
  have fin2:∀ (a:Act) (D:Nat) (w1:World) (st:St) (G1:Gh),a.defers=[Nq D]->Over w G a D st w1 G1->CH P fn σ.length Q .ret st->LeavesInM Fence.wide 0 P fn a.tmps (fun e w'=>∃ x σ' G',Q x σ'/\Dm w' G' x e/\A1 w' G' σ'/\Ext w G w' G') a.defers .returning w1:=by
   intro a D w1 st G1 hd hO hq
   rw [hd]
   exact⟨by simp,.inl ⟨D,_,rfl,run_takeDeferred hO.is,LB hN (hO.inv.but hO.unc (.inl hO.ge) (.putObj _ _ _)) hq⟩⟩
  have finP:∀ (a:Act) (D:Nat) (w1:World) (st:St) (G1:Gh) (c:List PanicEntry),a.defers=[Nq D]->Ext w G w1 G1->A1 w1 G1 st.σ->MC G1 D->w.heap.size<=D->w1.heap[D]?=some (.deferred (some []))->CH P fn σ.length Q (.pan c) st ->
   LeavesInM Fence.wide 0 P fn a.tmps (fun e w'=>∃ x σ' G',Q x σ'/\Dm w' G' x e/\A1 w' G' σ'/\Ext w G w' G') a.defers (.panicking c) w1:=by
   intro a D w1 st G1 c hd hx hs1 hu hge his hq
   rw [hd]
   have hb:=RV.putObj w1 D (.deferred none)
   exact⟨by simp,.inl ⟨D,_,rfl,run_takeDeferred his,M7 (p:=.undef) (hx.but hs1 hu (.inl hge) hb) (hs1.but hu hb) hN hq rfl (fun r e=>by cases e)⟩⟩
  refine L7 (ds:=[]) hgl hm hN' ?_ ?_ ags _ _ w G (by rw [Û];exact hoka) hinv rfl hsz h
  . intro a1 w1 st1 G1 hs1 hd1 hI1 hq
    obtain⟨hq⟩:=hq
    have after:∀ D st2 w2 G2,Over w G a1 D st2 w2 G2->KT P L σ.length (.blk t.bid::(b.map TI.code++[.code .skip])) (CH P fn σ.length Q) .normal st2 ->
     XW P (bodyPostM Fence.wide 0 P fn (fun e w'=>∃ x σ' G',Q x σ'/\Dm w' G' x e/\A1 w' G' σ'/\Ext w G w' G')) b (bodyPostM Fence.wide 0 P fn (fun e w'=>∃ x σ' G',Q x σ'/\Dm w' G' x e/\A1 w' G' σ'/\Ext w G w' G') .normal) { a1 with defers:=Nq D::a1.defers } w2:=by
     intro D st2 w2 G2 hO hk
     have hx0:=hO.inv.ext
     have hglr:C8 w2 (G2.reb σ.length):=(hgl.ext hx0).reb
     have hNr:(G2.reb σ.length).φ.length<=σ.length:=by show (G2.φ.take σ.length).length<=_;simp;omega
     have hir:Inv w2 (G2.reb σ.length) st2 (AK a1) w2 G2:=⟨Ys,hO.inv.store,hO.inv.env⟩
     have hxr:Ext w G w2 (G2.reb σ.length):=hx0.reb hN'
     have hur:MC (G2.reb σ.length) D:=hO.unc.reb
     have over:∀ (a2:Act) (st4:St) (w4:World) (G4:Gh),Inv w2 (G2.reb σ.length) st4 (AK a2) w4 G4->Over w G a2 D st4 w4 G4:=fun a2 st4 w4 G4 hI =>
      ⟨⟨hxr.trans hI.ext,hI.store,hI.env⟩,hur.ext hO.lt hI.ext,ï hO.lt hI.ext.size,hO.ge,(hur.same hO.lt hI.ext).trans hO.is⟩
     refine L7 (P:=P) (L:=L) (ds:=[Nq D]) hglr hm hNr ?_ ?_ b st2 { a1 with defers:=Nq D::a1.defers } w2 G2 (by rw [Û];exact hokb) hir (by simp [hd1]) hs1 hk
     . intro a2 w4 st4 G4 _ h2 h4 hk4
       exact fin2 a2 D w4 st4 G4 h2 (over a2 st4 w4 G4 h4) hk4
     . intro e a2 w4 hne hp
       cases e with
       |normal=>exact absurd rfl hne
       |ret =>
        obtain⟨_,h2,st4,G4,hk4,h4⟩:=hp
        exact fin2 a2 D w4 st4 G4 h2 (over a2 st4 w4 G4 h4) hk4
       |exit id=>obtain⟨_,_,st4,G4,hk4,_⟩:=hp;exact hk4.elim
       |panic c =>
        obtain⟨h2,st4,G4,hk4,hx4,hs4⟩:=hp
        exact finP a2 D w4 st4 G4 c h2 (hxr.trans hx4) hs4 (hur.ext hO.lt hx4) hO.ge ((hur.same hO.lt hx4).trans hO.is) hk4
       |goto l=>exact hp.elim
       |outgrown=>exact hp.elim
    have pass:∀ {x:AX} {st'},x≠.normal->KT P L σ.length (b.map TI.code++[.code .skip]) (CH P fn σ.length Q) x st'->CH P fn σ.length Q x st':=by
     intro x st' hx
     have key:∀ l:List Code,KT P L σ.length (l.map TI.code++[.code .skip]) (CH P fn σ.length Q) x st'->CH P fn σ.length Q x st':=by
      intro l
      induction l with
      |nil=>intro h;cases x<;>first|exact absurd rfl hx|exact h
      |cons c l ih=>intro h;cases x<;>first|exact absurd rfl hx|exact ih h
     exact key b
    refine (wpIn_wide (n:=0)).1 (wpIn_block ?_)
    refine TG (N:=σ.length) (L:=L) hgl hm hN' ⟨hok1,hok2⟩ ⟨hnd1,hnd2⟩ htv hI1 hs1 hq ?_ ?_
    . intro D st2 w2 G2 hO hk
      exact after D st2 w2 G2 hO hk
    . intro D c x st2 w2 G2 hj hO hk
      cases c with
      |ret =>
       cases hj
       refine wpIn_ret ?_
       exact fin2 { a1 with defers:=Nq D::a1.defers } D w2 st2 G2 (by simp [hd1]) ⟨hO.inv,hO.unc,hO.lt,hO.ge,hO.is⟩ (pass (by simp) hk)
      |exit id =>
       cases hj
       refine wpIn_exit ?_
       have hk:(if id=t.bid then KT P L σ.length (b.map TI.code++[.code .skip]) (CH P fn σ.length Q) .normal st2 else KT P L σ.length (b.map TI.code++[.code .skip]) (CH P fn σ.length Q) (.exit id) st2):=hk
       show (if id=t.bid then _ else _)
       by_cases e:id=t.bid
       . rw [Ç e] at hk ⊢
         exact after D st2 w2 G2 hO hk
       . rw [Å e] at hk
         exact (pass (by simp) hk).elim
      |_=>cases hj
  . intro e a1 w1 hne hp
    cases e with
    |normal=>exact absurd rfl hne
    |ret =>
     obtain⟨_,h2,st4,G4,hk4,h4⟩:=hp
     exact fin1 a1 w1 st4 G4 h2 h4 hk4
    |exit id=>obtain⟨_,_,st4,G4,hk4,_⟩:=hp;exact hk4.elim
    |panic c =>
     obtain⟨h2,st4,G4,hk4,hx4,hs4⟩:=hp
     show LeavesInM _ _ _ _ _ _ a1.defers _ _
     rw [h2]
     exact M7 (p:=.undef) hx4 hs4 hN hk4 rfl (fun r e=>by cases e)
    |goto l=>exact hp.elim
    |outgrown=>exact hp.elim
 exact (callsIn_wide (n:=0)).1 hc
end
end Go.Vl
namespace Go.Sp
open Go Go.RowKit Go.Q Go.Vl
def Z2 (fn:Func):List Code:=match Jh (flat (fn.body.getD .skip)) with|some r=>r.1|none=>[]
def tR (fn:Func):ZH:=match Jh (flat (fn.body.getD .skip)) with|some r=>r.2.1|none=>⟨0,.tmp 0,#[],.skip,.skip⟩
def bR (fn:Func):List Code:=match Jh (flat (fn.body.getD .skip)) with|some r=>r.2.2|none=>[]
def Zk:Code:=.cond (.const (.bool true)) .skip .skip
def Aet (fn:Func)(args:List PV)(σ:List (List PV)):List TI×St:=((Z2 fn).map TI.code++[.code Zk],IG args σ)
def Afg (k:List TI):Bool:=match Mx 99 k with
 | []=>true
 |_=>false
def isE (k:List TI):Bool:=match Mx 99 k with
 | [.code (.cond (.const (.bool true)) .skip .skip)]=>true
 |_=>false
def Aef (k:List TI):Bool:=match Mx 99 k with
 |.code .ret::_=>true
 |_=>false
section
variable {P:Program} {L:Cf} {N m:Nat} {Q:AX->St->Prop} {x:List TI×St} {fn:Func} {f:FuncId} {args:List PV} {R:PV}
theorem Wg:∀ (l:List Code) {x:AX} {st:St},KT P L N (l.map TI.code++[.code Zk]) Q x st->KT P L N (l.map TI.code++[.code .skip]) Q x st
 | [],x,st,h=>by
  cases x with
  |normal =>
   refine G9.bind (X:=fun s=>W P L N Zk (KT P L N [] Q) s) h fun s h=>?_
   have h:G9 N s (W P L N .skip (KT P L N [] Q)):=h
   exact h
  |_=>exact h
 |c::l,x,st,h=>by
  cases x with
  |normal=>exact G9.mono h fun s h=>Pn c (fun x st h=>Wg l h) s h
  |_=>exact Wg l h
theorem vR {σ:List (List PV)}{Q:Ck->List (List PV)->Prop}(L:Cf)(hf:P.funcs[f]?=some fn)(hm:P.follows .mixedOrders=true)(h:WX P L σ.length (PL P L σ.length (tR fn) (bR fn) (CH P fn σ.length Q)) (Aet fn args σ))
 (hb:((Jh (flat (fn.body.getD .skip))).isSome&&(fn.body.isSome&&okR L fn.ntmps (Z2 fn) (tR fn) (bR fn) args.length))=true:=by kernel_rfl):VC P f args σ Q:=by
 simp only [Æ] at hb
 obtain⟨h1,h2,h3⟩:=hb
 refine VC.introR (c:=fn.body.getD .skip) (ags:=Z2 fn) (t:=tR fn) (b:=bR fn) L hf ?_ hm ?_ h3 (Wg _ h.s)
 . cases e:fn.body with
   |none=>rw [e] at h2;cases h2
   |some c=>rfl
 . unfold Z2 tR bR
   cases e:Jh (flat (fn.body.getD .skip)) with
   |none=>rw [e] at h1;cases h1
   |some r=>rfl
theorem vRP (L:Cf)(hf:P.funcs[f]?=some fn)(hm:P.follows .mixedOrders=true)(h:∀ Q:Ck->List (List PV)->Prop,(∀ y,shareP y=R->Q (.ret y) [])->WX P L 0 (PL P L 0 (tR fn) (bR fn) (CH P fn 0 Q)) (Aet fn args []))
 (hb:((Jh (flat (fn.body.getD .skip))).isSome&&(fn.body.isSome&&okR L fn.ntmps (Z2 fn) (tR fn) (bR fn) args.length))=true:=by kernel_rfl) (hp:(F0 args&&R.pure)=true:=by kernel_rfl):C9 P f args R:=by
 rw [Æ] at hp
 exact VC.fin (fun Q hQ=>vR L hf hm (h Q hQ) hb) hp.1 hp.2
theorem rtG {t:ZH}{b:List Code}{Q:Ck->List (List PV)->Prop}(n:Nat)(qs:List (Nat×Fa)){R:PV}{σ:List (List PV)}(hQ:∀ y,shareP y=R->Q (.ret y) σ)
 (he:(Tj P L n qs x,Sg (rtR P fn N (nx P L n qs x)))=(some (Ft qs),some (R,σ)):=by kernel_rfl):WX P L N (PL P L N t b (CH P fn N Q)) x:=by
 obtain⟨e1,e2⟩:=Ó he
 refine UL ?_ e1
 generalize nx P L n qs x=z at e2
 obtain⟨k,st⟩:=z
 unfold rtR at e2
 refine⟨zp (n:=99) ?_⟩
 split at e2
 . rename_i k1 e
   simp only at e
   rw [e]
   refine IH ?_
   show CH P fn N Q .ret st
   cases e3:Sk P fn N st with
   |none=>rw [e3] at e2;cases e2
   |some z =>
    obtain⟨p,σ1⟩:=z
    rw [e3] at e2
    obtain⟨rfl,rfl⟩:=Ó (Af e2)
    exact (Jy e3 (hQ p rfl)).1
 . cases e2
theorem Zl {k:List TI}{st:St}(h:isE k=true)(hq:Q .normal st):WS P L N k Q st:=by
 unfold isE at h
 refine zp (n:=99) ?_
 split at h
 . rename_i e
   rw [e]
   exact Gm rfl (Xa hq)
 . cases h
theorem rgE {env0:List (Nat×PV)}{J:List (List PV)->Prop}{KA:AX->St->Prop}(n:Nat)(qs:List (Nat×Fa)){σ1:List (List PV)}(h:J σ1)
 (he:(Tj P L n qs x,isE (nx P L n qs x).1,Ei m ((nx P L n qs x).2.σ.take m),(nx P L n qs x).2.σ.take m)=(some (Ft qs),true,true,σ1):=by kernel_rfl):WX P L m (UJ m env0 J KA) x:=by
 simp only [È] at he
 obtain⟨e1,e2,e3,e4⟩:=he
 exact UL ⟨Zl e2 (G9.rfl ⟨e3,by rw [e4];exact h⟩)⟩ e1
theorem rgT {env0:List (Nat×PV)}{J:List (List PV)->Prop}{t:ZH}{b:List Code}{Q:Ck->List (List PV)->Prop}(n:Nat)(qs:List (Nat×Fa)){R:PV}{σ:List (List PV)}(hQ:∀ y,shareP y=R->Q (.ret y) σ)
 (he:(Tj P L n qs x,Aef (nx P L n qs x).1,Ei m ((nx P L n qs x).2.σ.take m),Sg (Sk P fn N ⟨env0,(nx P L n qs x).2.σ.take m⟩))=(some (Ft qs),true,true,some (R,σ)):=by kernel_rfl) :
 WX P L m (UJ m env0 J (KT P L N (.blk t.bid::(b.map TI.code++[.code .skip])) (CH P fn N Q))) x:=by
 simp only [È] at he
 obtain⟨e1,e2,e3,e4⟩:=he
 refine UL ⟨zp (n:=99) ?_⟩ e1
 unfold Aef at e2
 split at e2
 . rename_i k1 e
   rw [e]
   refine IH (G9.rfl ⟨e3,?_⟩)
   show KT P L N _ (CH P fn N Q) .ret _
   rw [QP]
   cases e5:Sk P fn N ⟨env0,(nx P L n qs x).2.σ.take m⟩ with
   |none=>rw [e5] at e4;cases e4
   |some z =>
    obtain⟨p,σ1⟩:=z
    rw [e5] at e4
    obtain⟨rfl,rfl⟩:=Ó (Af e4)
    exact (Jy e5 (hQ p rfl)).1
 . cases e2
theorem Rnd.bind {X:List (List PV)->Prop}{st:St}(h:G9 m st (Rnd m X)):Rnd m X st:=G9.bind h fun _ h=>h
theorem Wd {env0:List (Nat×PV)}{J:List (List PV)->Prop}{KA:AX->St->Prop}{a:Code}{st:St}(h:WS P L m [.code a,.code Zk] (UJ m env0 J KA) st):WS P L m [.code a] (UJ m env0 J KA) st:=by
 refine G9.mono h fun st2 h=>Pn a (fun x st h=>?_) st2 h
 cases x with
 |normal =>
  refine Rnd.bind (G9.bind h fun s h=>?_)
  have h:G9 m s (W P L m .skip (KT P L m [] (UJ m env0 J KA))):=h
  exact h
 |_=>exact h
def Adh (m:Nat)(env0:List (Nat×PV)):Bool:=env0.all fun x=>plain x.2&&x.2.fits m
theorem Adg {st:St}{env0:List (Nat×PV)}(h:env0.map (fun x=>(x.1,st.get x.1))=env0)(hb:Adh m env0=true):∀ t,Cr env0 t=.undef∨(Cr env0 t=st.get t/\plain (st.get t)=true/\(st.get t).fits m=true):=by
 intro t
 unfold Adh at hb
 induction env0 with
 |nil=>exact .inl rfl
 |cons y r ih =>
  obtain⟨k,v⟩:=y
  simp only [á,List.cons.injEq,È,ô] at h
  rw [Č,Æ,Æ] at hb
  show (if k=t then v else Cr r t)=_∨(if k=t then v else Cr r t)=_/\_
  by_cases e:k=t
  . subst e
    rw [Ç rfl]
    refine .inr ⟨h.1.symm,?_⟩
    rw [h.1];exact hb.1
  . rw [Å e];exact ih h.2 hb.2
theorem rgW {t:ZH}{b:List Code}{Qr:AX->St->Prop}{S Y:Type}(n:Nat)(qs:List (Nat×Fa))(m gf tv:Nat)(zs xs:List Int)(env0:List (Nat×PV))(g:List Int->S->Option Y)(C:S->List (List PV))(T:Int->S->St)(s0:S){y:Y}(hg:g xs s0=some y)(hne:zs≠[])(hit:ZK P gf zs xs)
 (hC:∀ s,(C s).length=m/\Ei m (C s)=true)
 (hT:∀ v s,(Tj P L 1 [] ([.code t.assign],⟨(tv,iP v)::env0,C s⟩),(nx P L 1 [] ([.code t.assign],⟨(tv,iP v)::env0,C s⟩)).1,(nx P L 1 [] ([.code t.assign],⟨(tv,iP v)::env0,C s⟩)).2.σ.length,low (keys (T v s)) m (nx P L 1 [] ([.code t.assign],⟨(tv,iP v)::env0,C s⟩)).2)=(some [],[],m,T v s))
 (he:(Tj P L n qs x,isE (nx P L n qs x).1,(nx P L n qs x).2.σ,Cu (nx P L n qs x).2 t.g,Jb P gf,t.ps,Nat.ble N m,env0.map (fun z=>(z.1,(nx P L n qs x).2.get z.1)),Adh m env0)=(some (Ft qs),true,C s0++[[.prv (zs.map Ld)]],.fn gf [.ptr m 0],true,#[tv],true,env0,true))
 (hr:∀ v rest s,g (v::rest) s=some y->∀ J:List (List PV)->Prop,(∀ s',g rest s'=some y->J (C s'))->WX P L m (UJ m env0 J (KT P L N (.blk t.bid::(b.map TI.code++[.code .skip])) Qr)) ([.code t.body,.code Zk],T v s))
 (hf:∀ s,g [] s=some y->WX P L N Qr ((.blk t.bid::(b.map TI.code++[.code .skip])),⟨env0,C s⟩)):WX P L N (PL P L N t b Qr) x:=by
 simp only [È] at he
 obtain⟨e1,e2,e3,e4,e5,e6,e7,e8,e9⟩:=he
 refine UL ⟨Zl e2 ⟨m,gf,tv,C s0,env0,zs,xs,fun pre σ'=>∃ s rest,xs=pre++rest/\g rest s=some y/\σ'=C s,⟨e3,(hC s0).1,Ø e7,(hC s0).2,hne⟩,⟨e4,e5,e6,hit⟩,Adg e8 e9,⟨⟨s0,xs,rfl,hg,rfl⟩,?_⟩,?_,?_⟩⟩ e1
 . rintro pre σ' ⟨s,rest,_,_,rfl⟩;exact (hC s).1
 . rintro pre v σ' ⟨s,rest,hx,hgr,rfl⟩ hp
   have hp2:[v] <+: rest:=by rw [hx] at hp;exact (List.prefix_append_right_inj pre).1 hp
   obtain⟨rest',rfl⟩:=hp2
   have h3:=hT v s
   simp only [È] at h3
   obtain⟨k1,k2,k3,k4⟩:=h3
   have hb:=hr v rest' s hgr (fun σ'=>∃ s rest,xs=(pre++[v])++rest/\g rest s=some y/\σ'=C s) (fun s' hs'=>⟨s',rest',by rw [hx];simp,hs',rfl⟩)
   have hw:WX P L m (fun ax st2=>ax=.normal/\st2.σ.length=m/\WS P L m [.code t.body] (UJ m env0 (fun σ'=>∃ s rest,xs=(pre++[v])++rest/\g rest s=some y/\σ'=C s) (KT P L N (.blk t.bid::(b.map TI.code++[.code .skip])) Qr)) st2) ([.code t.assign],⟨(tv,iP v)::env0,C s⟩):=by
    refine UL (n:=1) (qs:=[]) ⟨?_⟩ k1
    rw [k2]
    exact⟨rfl,k3,Wd (K1 _ _ rfl (Þ _) k4 hb.s)⟩
   exact hw.s
 . rintro σ' ⟨s,rest,hx,hgr,rfl⟩
   have:rest=[]:=by
    have:=Ĝ List.length hx
    simp at this;exact this
   subst this
   exact (hf s hgr).s
end
def YM {α:Type}(l:List α)(i:Int)(f:α->α):Option (List α):=(gi l i).bind fun x=>H8 l i (f x)
section
variable {α:Type} (R:Rl α)
theorem stM {l l':List α}{m off:Nat}{i:Int}{f:α->α}{y:List Value}(h:YM l i f=some l')(hy:off+y.length<=R.n)(hx:∀ x,(R.vals x).take off++y++(R.vals x).drop (off+y.length)=R.vals (f x)) :
 StA (DE (l.map R.vals) m) (0+i.toNat*R.n+off) y.length (y.map .lit) (DE (l'.map R.vals) m):=by
 obtain⟨x,h1,h2⟩:=Ae h
 exact stF R h1 h2 hy (hx x)
def fsM {l l':List α}(m off:Nat){i:Int}{f:α->α}(y:List Value)(h:YM l i f=some l')(hy:off+y.length<=R.n)(hx:∀ x,(R.vals x).take off++y++(R.vals x).drop (off+y.length)=R.vals (f x)):Fa:=⟨.ast (DE (l'.map R.vals) m),_,stM R (m:=m) (off:=off) h hy hx⟩
end
def br2 (P:Program)(L:Cf)(k:List TI)(st:St):Option (List TI×(Bool->St)):=match Mx 99 k with
 |.code (.region i ops false)::k'=>match DD L.pl i,ops.toList with
  |none,[o1,o2]=>match o1.guard,HO P o1 st,o2.op,o2.dst,o2.guard with
   |none,some (true,st1),.binOp .eql t x (.const (.slice none 0 0)) _,some d,none=>match Cu st1 x with
    |.sl [] _=>if ((HO P o2 st1).isNone&&Vc P t)=true then some (k',fun b=>clr L.L (st1.put (some d) (.lit (.bool b)))) else none
    |_=>none
   |_,_,_,_,_=>none
  |_,_=>none
 |_=>none
section
variable {P:Program} {L:Cf} {N:Nat} {Q:AX->St->Prop} {x:List TI×St}
theorem Zu {k k':List TI}{st:St}{f:Bool->St}(h:br2 P L k st=some (k',f))(hk:∀ b,WS P L N k' Q (f b)):WS P L N k Q st:=by
 unfold br2 at h
 refine zp (n:=99) ?_
 split at h
 . rename_i i ops k1 e
   rw [e]
   split at h
   . rename_i o1 o2 hpl hops
     split at h
     . rename_i st1 t y t2 d hg1 he1 hop hd hg2
       split at h
       . rename_i g hx
         split at h
         . rename_i hs
           simp only [Â,È] at h
           obtain⟨rfl,rfl⟩:=h
           refine Ii hpl fun K' hK hP=>?_
           rw [hops]
           unfold B6
           rw [show CC ops st o1=some true by unfold CC;rw [hg1]]
           simp only
           rw [he1]
           simp only
           refine⟨trivial,?_⟩
           unfold B6
           rw [show CC ops st1 o2=some true by unfold CC;rw [hg2]]
           simp only
           have hb:∀ b,B6 P ops K' [] (st1.put (some d) (.lit (.bool b))):=fun b=>hK _ _ rfl (hk b)
           rw [Æ,Option.isNone_iff_eq_none] at hs
           rw [hs.1]
           simp only
           rw [show EL P o2 st1=none by unfold EL;rw [hop]]
           simp only
           rw [show Me o2 st1=none by unfold Me;rw [hop]]
           simp only
           unfold Ri
           rw [hop,hd]
           simp only
           rw [hx]
           exact⟨hs.2,hb true,hb false⟩
         . cases h
       . cases h
     . cases h
   . cases h
 . cases h
def brT (P:Program)(L:Cf)(x:List TI×St)(b:Bool):List TI×St:=match br2 P L x.1 x.2 with
 |some (k,f)=>(k,f b)
 |none=>x
theorem brN (n:Nat)(qs:List (Nat×Fa))(h:∀ b,WX P L N Q (brT P L (nx P L n qs x) b))(he:(Tj P L n qs x,(br2 P L (nx P L n qs x).1 (nx P L n qs x).2).isSome)=(some (Ft qs),true):=by kernel_rfl):WX P L N Q x:=by
 simp only [È] at he
 obtain⟨e1,e2⟩:=he
 refine UL ⟨?_⟩ e1
 cases e:br2 P L (nx P L n qs x).1 (nx P L n qs x).2 with
 |none=>rw [e] at e2;cases e2
 |some z =>
  obtain⟨k',f⟩:=z
  refine Zu e fun b=>?_
  have:=(h b).s
  unfold brT at this
  rw [e] at this
  exact this
end
end Go.Sp
namespace Go.Proofs
open Go.Shelf
def Tryz.lays189_ren:Go.Shelf.Ren:=⟨fun|189=>52|125=>76|257=>75|128=>130|129=>131|294=>121|295=>122|296=>123|297=>124|298=>125|299=>126|216=>127|300=>128|301=>129|328=>149|329=>150|330=>151|331=>152|332=>153|215=>154|343=>165|n=>n,fun|28=>29|3=>3|46=>175|0=>0|51=>203|53=>205|4=>4|183=>197|182=>196|131=>129|5=>5|9=>9|218=>221|222=>225|228=>235|229=>236|n=>n,fun|n=>n⟩
theorem Tryz.lays189:Go.Proofs.Lays.n189 Tryz.prog Tryz.lays189_ren:={
 mixed:=by kernel_rfl
 f125:=Tryz.func76.trans (congrArg some (by kernel_rfl))
 f128:=Tryz.func130.trans (congrArg some (by kernel_rfl))
 f129:=Tryz.func131.trans (congrArg some (by kernel_rfl))
 f189:=Tryz.func52.trans (congrArg some (by kernel_rfl))
 f215:=Tryz.func154.trans (congrArg some (by kernel_rfl))
 f216:=Tryz.func127.trans (congrArg some (by kernel_rfl))
 f257:=Tryz.func75.trans (congrArg some (by kernel_rfl))
 f294:=Tryz.func121.trans (congrArg some (by kernel_rfl))
 f295:=Tryz.func122.trans (congrArg some (by kernel_rfl))
 f296:=Tryz.func123.trans (congrArg some (by kernel_rfl))
 f297:=Tryz.func124.trans (congrArg some (by kernel_rfl))
 f298:=Tryz.func125.trans (congrArg some (by kernel_rfl))
 f299:=Tryz.func126.trans (congrArg some (by kernel_rfl))
 f300:=Tryz.func128.trans (congrArg some (by kernel_rfl))
 f301:=Tryz.func129.trans (congrArg some (by kernel_rfl))
 f328:=Tryz.func149.trans (congrArg some (by kernel_rfl))
 f329:=Tryz.func150.trans (congrArg some (by kernel_rfl))
 f330:=Tryz.func151.trans (congrArg some (by kernel_rfl))
 f331:=Tryz.func152.trans (congrArg some (by kernel_rfl))
 f332:=Tryz.func153.trans (congrArg some (by kernel_rfl))
 f343:=Tryz.func165.trans (congrArg some (by kernel_rfl))
 t0:=Tryz.underlying0
 a0:=Tryz.isAgg0
 z0:=Tryz.sizeOf0
 v0:=Tryz.zeroValue0
 t3:=Tryz.underlying3
 a3:=Tryz.isAgg3
 z3:=Tryz.sizeOf3
 v3:=Tryz.zeroValue3
 t4:=Tryz.underlying4
 a4:=Tryz.isAgg4
 z4:=Tryz.sizeOf4
 v4:=Tryz.zeroValue4
 t5:=Tryz.underlying5
 a5:=Tryz.isAgg5
 z5:=Tryz.sizeOf5
 v5:=Tryz.zeroValue5
 t9:=Tryz.underlying9
 a9:=Tryz.isAgg9
 z9:=Tryz.sizeOf9
 v9:=Tryz.zeroValue9
 t28:=Tryz.underlying29
 a28:=Tryz.isAgg29
 z28:=Tryz.sizeOf29
 v28:=Tryz.zeroValue29
 t46:=Tryz.underlying175
 a46:=Tryz.isAgg175
 z46:=Tryz.sizeOf175
 v46:=Tryz.zeroValue175
 t51:=Tryz.underlying203
 a51:=Tryz.isAgg203
 z51:=Tryz.sizeOf203
 v51:=Tryz.zeroValue203
 t53:=Tryz.underlying205
 a53:=Tryz.isAgg205
 z53:=Tryz.sizeOf205
 v53:=Tryz.zeroValue205
 t131:=Tryz.underlying129
 a131:=Tryz.isAgg129
 z131:=Tryz.sizeOf129
 v131:=Tryz.zeroValue129
 t182:=Tryz.underlying196
 a182:=Tryz.isAgg196
 z182:=Tryz.sizeOf196
 v182:=Tryz.zeroValue196
 t183:=Tryz.underlying197
 a183:=Tryz.isAgg197
 z183:=Tryz.sizeOf197
 v183:=Tryz.zeroValue197
 t218:=Tryz.underlying221
 a218:=Tryz.isAgg221
 z218:=Tryz.sizeOf221
 v218:=Tryz.zeroValue221
 t222:=Tryz.underlying225
 a222:=Tryz.isAgg225
 z222:=Tryz.sizeOf225
 v222:=Tryz.zeroValue225
 t228:=Tryz.underlying235
 a228:=Tryz.isAgg235
 z228:=Tryz.sizeOf235
 v228:=Tryz.zeroValue235
 t229:=Tryz.underlying236
 a229:=Tryz.isAgg236
 z229:=Tryz.sizeOf236
 v229:=Tryz.zeroValue236 }
open Go.Sort Go.RowKit in
theorem Tryz.slices_Sort_int (blk off cap:Nat)(zs:List Int)(w:World)(hH:Holds (Value.int .i64) w blk off zs.toArray)(hblk:blk<w.heap.size)(hsz:zs.length<4611686018427387904) :
 Calls Tryz.prog 52 #[.slice (some ⟨blk,off,none⟩) zs.length cap] w fun e w' =>
  e=.returned (.tuple #[])/\∃ n os,w'=grow (putRow (Value.int .i64) (Sort.ahead w n) blk off (zs.mergeSort fun x y=>decide (x<=y)).toArray) os:=Any.slices_Sort_int Tryz.lays189 blk off cap zs w hH hblk hsz
def Tryz.laysNm220_ren:Go.Shelf.Ren:=⟨fun|20=>54|n=>n,fun|22=>29|3=>3|4=>4|0=>0|n=>n,fun|n=>n⟩
theorem Tryz.laysNm220:Go.Proofs.Lays2.n20 Tryz.prog Tryz.laysNm220_ren:={
 mixed:=by kernel_rfl
 f20:=Tryz.func54.trans (congrArg some (by kernel_rfl))
 t0:=Tryz.underlying0
 a0:=Tryz.isAgg0
 z0:=Tryz.sizeOf0
 v0:=Tryz.zeroValue0
 t3:=Tryz.underlying3
 a3:=Tryz.isAgg3
 z3:=Tryz.sizeOf3
 v3:=Tryz.zeroValue3
 t4:=Tryz.underlying4
 a4:=Tryz.isAgg4
 z4:=Tryz.sizeOf4
 v4:=Tryz.zeroValue4
 t22:=Tryz.underlying29
 a22:=Tryz.isAgg29
 z22:=Tryz.sizeOf29
 v22:=Tryz.zeroValue29
 i3:=by kernel_rfl }
open Go.RowKit Go.Lib Go.Sort in
theorem Tryz.slices_Compact_int (blk off cap:Nat)(zs:List Int)(w:World)(hH:Holds (Value.int .i64) w blk off zs.toArray)(hsz:zs.length<=9223372036854775807)(hcap:zs.length<=cap) :
 Calls Tryz.prog 54 #[.slice (some ⟨blk,off,none⟩) zs.length cap] w fun e w'=>e=.returned (.slice (some ⟨blk,off,none⟩) (Lib.compact zs).length cap)/\∃ q,w'=putRow (Value.int .i64) (Sort.ahead w q) blk off (Lib.compact zs++List.replicate (zs.length-(Lib.compact zs).length) 0).toArray:=Any.slices_Compact_int Tryz.laysNm220 blk off cap zs w hH hsz hcap
open Go.RowKit Go.Sort in
theorem Tryz.slices_Sort_int_none (p:Option Addr)(cap:Nat)(w:World) :
 Calls Tryz.prog 52 #[.slice p 0 cap] w fun e w'=>e=.returned (.tuple #[])/\w'=w:=Any.slices_Sort_int_none Tryz.lays189 p cap w
end Go.Proofs
namespace Go.Sp
open Go Go.RowKit Go.Proofs Go.Sort Go.Vl
theorem YW (zs:List Int):(zs.map Ld).flatten.map PV.lit=zs.map fun z=>PV.lit (.int .i64 z):=by
 induction zs with
 |nil=>rfl
 |cons z zs ih=>simp only [á,List.flatten_cons,Ď,ih];rfl
theorem Pk (zs:List Int)(e:Nat):(DE (zs.map Ld) e).length=zs.length+e:=by
 unfold DE;rw [YW];simp
theorem WY (zs:List Int)(e i:Nat)(h:i<zs.length):(DE (zs.map Ld) e)[i]?=some (.lit (.int .i64 zs[i])):=by
 unfold DE
 rw [YW,Ô (by simpa using h)]
 simp [h]
theorem Pl (zs:List Int)(e:Nat):∀ p∈DE (zs.map Ld) e,p=.undef∨∃ v,p=.lit v:=by
 intro p hp
 unfold DE at hp
 rcases List.mem_append.1 hp with h|h
 . obtain⟨v,_,rfl⟩:=List.mem_map.1 h;exact .inr ⟨v,rfl⟩
 . exact .inl (List.mem_replicate.1 h).2
section
variable {w w':World} {G:Gh} {P:Program} {σ:List (List PV)}
theorem XS {k b e:Nat}{zs:List Int}(h:A1 w G σ)(h1:G.φ[k]?=some b)(s1:σ[k]?=some (DE (zs.map Ld) e)) :
 ∃ T,∃ arr:Array Value,w.heap[b]?=some (.cells arr T (0,0))/\arr.size=zs.length+e/\(∀ i,i<arr.size->(arr.getD i Go.undef).oneCell'=true)/\∀ i (h:i<zs.length),arr[i]?=some (.int .i64 zs[i]):=by
 obtain⟨⟨o1,arr1,l1,⟨l2,l3⟩,l4⟩,_⟩:=h.blk k b _ h1 s1
 have c1:∃ T,o1=.cells arr1 T (0,0):=by
  rcases l2 with k2|⟨kvs,es,c,k2,_⟩|⟨kvs,seen,k2,_⟩
  . exact k2.1
  . exfalso
    have:=Pl zs e (.mp kvs) (by rw [k2];simp)
    rcases this with h|⟨v,h⟩<;>cases h
  . exfalso
    have:=Pl zs e (.mit kvs seen) (by rw [k2];simp)
    rcases this with h|⟨v,h⟩<;>cases h
 obtain⟨T,rfl⟩:=c1
 refine⟨T,arr1,l1,by rw [l3,Pk],fun i hi=>?_,fun i hi=>?_⟩
 . obtain⟨u,u1,u2,_⟩:=l4 i _ (Ã (by rw [<- l3];exact hi))
   rw [É,u1];exact u2
 . obtain⟨u,u1,u2,u3,u4⟩:=l4 i _ (WY zs e i hi)
   cases u3 with
   |lit=>exact u1
theorem O0 (enc:Int->Value)(w:World)(b:Nat)(d:Array Int)(k:Nat)(hk:k≠b):(putRow enc w b 0 d).heap[k]?=w.heap[k]?:=by
 show (w.heap.modify b _)[k]?=_
 rw [Array.getElem?_modify,Å (ė hk)]
theorem Oz (enc:Int->Value)(w:World)(b:Nat)(d:Array Int){arr:Array Value}{T:TypeId}{f:Nat×Nat}(h:w.heap[b]?=some (.cells arr T f)):(putRow enc w b 0 d).heap[b]?=some (.cells (putCells enc 0 d arr) T f):=by
 show (w.heap.modify b _)[b]?=_
 rw [Array.getElem?_modify,Ç rfl,h];rfl
theorem MR (zs:List Int)(arr:Array Value)(i:Nat):(putCells (Value.int .i64) 0 zs.toArray arr).getD i Go.undef=if h:i<zs.length/\i<arr.size then .int .i64 (zs[i]'h.1) else arr.getD i Go.undef:=by
 unfold putCells
 rw [É,Array.getElem?_mapIdx,É]
 by_cases h2:i<arr.size
 . rw [à h2]
   by_cases h:i<zs.length
   . simp [h,h2]
   . simp [h]
 . rw [Array.getElem?_eq_none (by omega)]
   simp [h2]
theorem Ma (zs:List Int)(arr:Array Value):(putCells (Value.int .i64) 0 zs.toArray arr).size=arr.size:=by simp [putCells]
theorem VC.arrI {f:FuncId}{zs zs':List Int}{b cap e:Nat}(hl:zs'.length=zs.length)
 (hc:∀ (blk:Nat) (w:World),Holds (Value.int .i64) w blk 0 zs.toArray->blk<w.heap.size->Calls P f #[.slice (some ⟨blk,0,none⟩) zs.length cap] w fun e w'=>e=.returned (.tuple #[])/\∃ n os,w'=grow (putRow (Value.int .i64) (Sort.ahead w n) blk 0 zs'.toArray) os)
 (hσ:σ[b]?=some (DE (zs.map Ld) e)):Jq P f [.asl b 0 zs.length cap] σ (.ret (.tup [])) (σ.set b (DE (zs'.map Ld) e)):=by
 intro w G vs hs hvs hv hΩ hgl
 have h0:=hv 0 (by simp)
 have hvs1:vs.size=1:=hvs
 generalize hp:(PV.asl b 0 zs.length cap)=p at h0
 have hx:∃ blk,G.φ[b]?=some blk/\vs = #[.slice (some ⟨blk,0,none⟩) zs.length cap]:=by
  have e1:vs = #[vs.getD 0 Go.undef]:=by
   apply Array.ext
   . simpa using hvs1
   . intro i h1 h2
     have:i=0:=by simp at h2;exact h2
     subst this
     simp [Array.getD,h1]
  have h0':V w G.U G.φ p (vs.getD 0 Go.undef):=by rw [<- hp] at h0 ⊢;exact h0
  revert h0'
  generalize vs.getD 0 Go.undef=z at e1
  intro h0'
  cases h0' with
  |asl _ _ _ _ _ k hk hcc hm=>cases hp;exact⟨k,hk,e1⟩
  |_=>cases hp
 obtain⟨blk,hφ,rfl⟩:=hx
 obtain⟨T,arr,ha,hsz,hone,hget⟩:=XS hs hφ hσ
 have hlt:blk<w.heap.size:=hs.phi_lt (Ò hφ)
 have hH:Holds (Value.int .i64) w blk 0 zs.toArray:=by
  intro j hj
  have hj':j<zs.length:=by simpa using hj
  refine⟨?_,?_⟩
  . rw [ð]
    have h:=hget j hj'
    simp [World.cell?,ha,h,hj']
  . simp [World.frozen?,ha]
 refine (hc blk w hH hlt).mono ?_
 rintro e2 w' ⟨rfl,n,os,rfl⟩
 have hI:Inv w G ⟨[],σ⟩ (fun _=>Go.undef) w G:=⟨Ext.refl _ _,hs,⟨fun t=>.undef _ _,fun t=>trivial⟩⟩
 have hI2:=hI.setBlock (w':=putRow (Value.int .i64) (Sort.ahead w n) blk 0 zs'.toArray) (cs':=DE (zs'.map Ld) e) (arr':=putCells (Value.int .i64) 0 zs'.toArray arr) hφ hσ ha
  (Oz _ (Sort.ahead w n) blk _ ha) (fun p hp=>by rcases Pl zs' e p hp with h|⟨v,h⟩<;>rw [h]<;>rfl) (fun i hi=>O0 _ (Sort.ahead w n) blk _ i hi) rfl rfl rfl
  ⟨by rw [Ma,hsz,Pk,hl],fun i hi=>?_⟩ ?_ (fun t xs j h=>by cases h)
 . have hx:∀ (w1 w2:World) (o:Array Obj),w2=grow w1 o->Below w1.heap.size w1 w2:=by
    rintro w1 w2 o rfl
    exact⟨rfl,rfl,rfl,by simp,fun k hk=>by show (w1.heap++o)[k]?=_;rw [ó hk]⟩
   have hB:=hx (putRow (Value.int .i64) (Sort.ahead w n) blk 0 zs'.toArray) _ os rfl
   refine⟨_,_,_,⟨rfl,rfl⟩,⟨_,rfl,.tup _ _ _ rfl (fun i hi=>by simp at hi),fun i xs hi=>by simp at hi⟩,hI2.store.below hB (fun b i hu=>.inl hu) (fun b i hu=>hu),hI2.ext.trans (Ext.ofBelow hI2.store hB (fun b i hu=>.inl hu) (fun b i hu=>hu))⟩
 . rw [Pk,hl] at hi
   rw [MR]
   split
   . rename_i h
     have e3:=WY zs' e i h.1
     obtain⟨h4,h5⟩:=List.getElem?_eq_some_iff.1 e3
     rw [h5]
     exact⟨.lit _ _,rfl⟩
   . rename_i h
     have h6:¬ i<zs'.length:=fun h7=>h ⟨h7,by omega⟩
     refine⟨?_,hone i (by omega)⟩
     have:(DE (zs'.map Ld) e)[i]'(by rw [Pk,hl];exact hi)=.undef:=by
      unfold DE
      simp only [YW]
      rw [ď (by simpa using h6)]
      simp
     rw [this];exact .undef _ _
 . intro j c hj
   rcases Pl zs' e c (Ò hj) with h|⟨v,h⟩<;>rw [h]<;>trivial
end
def V3 (x:Int):List Int->List Int
 | []=>[x]
 |y::r=>bif decide (x<=y) then x::y::r else y::V3 x r
def E4:List Int->List Int
 | []=>[]
 |x::r=>V3 x (E4 r)
theorem NX (x:Int):∀ l,(V3 x l).Perm (x::l)
 | []=>.refl _
 |y::r=>by
  unfold V3
  by_cases h:x<=y
  . rw [Ì h];exact .refl _
  . rw [Ë h];exact ((NX x r).cons y).trans (.swap _ _ _)
theorem G6:∀ l,(E4 l).Perm l
 | []=>.refl _
 |x::r=>(NX x _).trans ((G6 r).cons x)
theorem OA (x:Int):∀ l,l.Pairwise (·<=·)->(V3 x l).Pairwise (·<=·)
 | [],_=>by simp [V3]
 |y::r,h=>by
  have hr:=List.pairwise_cons.1 h
  unfold V3
  by_cases hx:x<=y
  . rw [Ì hx]
    exact List.pairwise_cons.2 ⟨fun z hz=>by
     rcases List.mem_cons.1 hz with rfl|hz
     . exact hx
     . exact Int.le_trans hx (hr.1 z hz),h⟩
  . rw [Ë hx]
    refine List.pairwise_cons.2 ⟨fun z hz=>?_,OA x r hr.2⟩
    rcases List.mem_cons.1 ((NX x r).mem_iff.1 hz) with rfl|hz
    . omega
    . exact hr.1 z hz
theorem Jm:∀ l,(E4 l).Pairwise (·<=·)
 | []=>.nil
 |x::r=>OA x _ (Jm r)
theorem X4 (l:List Int):(l.mergeSort fun x y=>decide (x<=y))=E4 l:=by
 refine List.Perm.eq_of_pairwise (le:=fun x y:Int=>x<=y) (fun a b _ _ h1 h2=>Int.le_antisymm h1 h2) ?_ (Jm l) ((List.mergeSort_perm _ _).trans (G6 l).symm)
 have:=List.pairwise_mergeSort (le:=fun x y:Int=>decide (x<=y)) (fun a b c h1 h2=>by simp at h1 h2 ⊢;omega) (fun a b=>by simp;omega) l
 exact this.imp (fun h=>by simpa using h)
def Np:List Int->List Int
 | []=>[]
 | [x]=>[x]
 |x::y::r=>bif decide (x=y) then Np (y::r) else x::Np (y::r)
theorem Q5:∀ (l:List Int) (y x:Int),Np (l++[y,x])=Np (l++[y])++(if y=x then [] else [x])
 | [],y,x=>by
  show Np [y,x]=Np [y]++_
  by_cases h:y=x
  . subst h;simp [Np]
  . simp [Np,h]
 | [z],y,x=>by
  show Np (z::y::[x])=Np [z,y]++_
  have ih:=Q5 [] y x
  have ih:Np (y::[x])=Np [y]++(if y=x then [] else [x]):=ih
  rw [Np,ih]
  by_cases h:z=y
  . subst h;simp [Np]
  . simp [Np,h]
 |z::z2::l,y,x=>by
  have ih:=Q5 (z2::l) y x
  simp only [List.cons_append] at ih ⊢
  rw [Np,Np,ih]
  by_cases h:z=z2
  . subst h;simp
  . simp [h]
theorem Ja (d e:Array Int):∀ m,(∀ j,j<m->d[j]! = e[j]!)->Lib.compactUpTo d m=Lib.compactUpTo e m
 |0,_=>rfl
 |m+1,h=>by
  rw [Lib.compactUpTo_succ,Lib.compactUpTo_succ,Ja d e m (fun j hj=>h j (by omega)),h m (by omega)]
  have:Lib.keeps d m=Lib.keeps e m:=by
   unfold Lib.keeps
   rw [h m (by omega)]
   by_cases hm:m=0
   . simp [hm]
   . rw [h (m-1) (by omega)]
  rw [this]
theorem VS (l:List Int):Lib.compact l=Np l:=by
 have key:∀ r:List Int,Lib.compact r.reverse=Np r.reverse:=by
  intro r
  induction r with
  |nil=>rfl
  |cons x r ih =>
   cases r with
   |nil=>simp [Lib.compact,Lib.compactUpTo,Np,Lib.keeps,List.range_succ]
   |cons y r =>
    rw [List.reverse_cons,List.reverse_cons,ñ]
    show Lib.compact (r.reverse++[y,x])=Np (r.reverse++[y,x])
    rw [Q5]
    rw [List.reverse_cons] at ih
    rw [<- ih]
    unfold Lib.compact
    have hl:(r.reverse++[y,x]).length=(r.reverse++[y]).length+1:=by simp
    rw [hl,Lib.compactUpTo_succ]
    rw [Ja (r.reverse++[y,x]).toArray (r.reverse++[y]).toArray _ (fun j hj=>?_)]
    . congr 1
      have h1:(r.reverse++[y,x]).toArray[(r.reverse++[y]).length]! = x:=by simp
      have h2:(r.reverse++[y,x]).toArray[(r.reverse++[y]).length-1]! = y:=by simp
      unfold Lib.keeps
      rw [h1,h2]
      by_cases h:y=x
      . subst h;simp
      . have:¬ x=y:=fun e=>h e.symm
        simp [h,this]
    . simp only [Õ,List.length_reverse,Ý,ë] at hj
      simp only [List.getElem!_toArray,List.getElem!_eq_getElem?_getD]
      by_cases hj2:j<r.length
      . rw [Ô (by simpa using hj2),Ô (by simpa using hj2)]
      . have:j=r.length:=by omega
        subst this
        rw [ß (by simp),ß (by simp)]
        simp
 have:=key l.reverse
 rwa [List.reverse_reverse] at this
def D4 (zs:List Int):List Int:=(Np zs).filter fun x=>decide (x<=41666)
def OB (zs:List Int):Option (List Int):=if zs.length<4611686018427387904 then some (E4 zs) else none
theorem Yb {zs r:List Int}{σ:List (List PV)}{b cap e:Nat}(h:OB zs=some r)(hσ:σ[b]?=some (DE (zs.map Ld) e)):Jq Tryz.prog 52 [.asl b 0 zs.length cap] σ (.ret (.tup [])) (σ.set b (DE (r.map Ld) e)):=by
 unfold OB at h
 split at h
 . rename_i hl
   cases h
   exact VC.arrI (G6 zs).length_eq (fun blk w hH hlt=>by rw [<- X4];exact Tryz.slices_Sort_int blk 0 cap zs w hH hlt hl) hσ
 . cases h
end Go.Sp
namespace Go.Sp
open Go Go.Vl
set_option linter.unusedVariables false
structure Ac where
 from_:Int
 to_:Int
 clause:Int
def CM (x:Ac):List PV:=[iP x.from_,iP x.to_,iP x.clause]
theorem NI (x:Ac):CM x=[iP x.from_,iP x.to_,iP x.clause]:=rfl
theorem MP (x:Ac):(CM x).length=3:=rfl
def BK:Rw Ac:=⟨CM,_,3,NI,MP⟩
structure Bh where
 State:Int
 Houses:Int
 By:(List Int)
structure Ar where
 From:Int
 To:Int
 State:Int
 Houses:Int
def DU (x:Ar):List PV:=[iP x.From,iP x.To,iP x.State,iP x.Houses]
theorem Mt (x:Ar):DU x=[iP x.From,iP x.To,iP x.State,iP x.Houses]:=rfl
theorem LU (x:Ar):(DU x).length=4:=rfl
def A7:Rw Ar:=⟨DU,_,4,Mt,LU⟩
def Ai:Rl Ac:=⟨fun x=>[(.int .i64 x.from_),(.int .i64 x.to_),(.int .i64 x.clause)],3,fun _=>rfl⟩
def Fs:Rl Int:=⟨fun x=>[(.int .i64 x)],1,fun _=>rfl⟩
def Bl:Rl Ar:=⟨fun x=>[(.int .i64 x.From),(.int .i64 x.To),(.int .i64 x.State),(.int .i64 x.Houses)],4,fun _=>rfl⟩
def Cd (cv1:(List Ab))(a_:Ac)(b:Ac):Option Int :=
 (gi cv1 b.clause).bind fun x =>
 (gi cv1 a_.clause).bind fun x1 =>
 some (À (x.Rank-x1.Rank))
def Ax:Nat->Int->Nat->(List Ab)->Int->(List Ac)->Option (List Ac)
 |0,_,_,_,_,_=>none
 |n+1,a_,n_,cv1,j,data4 =>
  ((bif (decide (a_<j)) then
   (gx n_ j).bind fun _ =>
   (gi data4 j).bind fun x2 =>
   (gx n_ (À (j-1))).bind fun _ =>
   (gi data4 (À (j-1))).bind fun x3 =>
   (Cd cv1 x2 x3).bind fun s =>
   some (decide (s<0))
  else
   some false
  ):Option Bool).bind fun v34 =>
   bif v34 then
    (gx n_ (À (j-1))).bind fun _ =>
    (gi data4 (À (j-1))).bind fun x =>
    (gx n_ j).bind fun _ =>
    (gi data4 j).bind fun x1 =>
    (H8 data4 j x).bind fun data5 =>
    (H8 data5 (À (j-1)) x1).bind fun data6 =>
    Ax n a_ n_ cv1 (À (j-1)) data6
   else
    some data4
theorem BI (n:Nat)(a_:Int)(n_:Nat)(cv1:(List Ab))(j:Int)(data4:(List Ac)):Ax (n+1) a_ n_ cv1 j data4 =
 ((bif (decide (a_<j)) then
  (gx n_ j).bind fun _ =>
  (gi data4 j).bind fun x2 =>
  (gx n_ (À (j-1))).bind fun _ =>
  (gi data4 (À (j-1))).bind fun x3 =>
  (Cd cv1 x2 x3).bind fun s =>
  some (decide (s<0))
 else
  some false
 ):Option Bool).bind fun v34 =>
  bif v34 then
   (gx n_ (À (j-1))).bind fun _ =>
   (gi data4 (À (j-1))).bind fun x =>
   (gx n_ j).bind fun _ =>
   (gi data4 j).bind fun x1 =>
   (H8 data4 j x).bind fun data5 =>
   (H8 data5 (À (j-1)) x1).bind fun data6 =>
   Ax n a_ n_ cv1 (À (j-1)) data6
  else
   some data4:=by rw [Ax]
def A9:Nat->Int->Int->Nat->(List Ab)->Int->(List Ac)->Option (List Ac)
 |0,_,_,_,_,_,_=>none
 |n+1,b,a_,n_,cv1,i,data2 =>
  bif (decide (i<b)) then
   ((Ax n a_ n_ cv1 i data2
   ):Option (List Ac)).bind fun data3 =>
    A9 n b a_ n_ cv1 (À (i+1)) data3
  else
   some data2
theorem C6 (n:Nat)(b:Int)(a_:Int)(n_:Nat)(cv1:(List Ab))(i:Int)(data2:(List Ac)):A9 (n+1) b a_ n_ cv1 i data2 =
 bif (decide (i<b)) then
  ((Ax n a_ n_ cv1 i data2
  ):Option (List Ac)).bind fun data3 =>
   A9 n b a_ n_ cv1 (À (i+1)) data3
 else
  some data2:=by rw [A9]
def A8 (n:Nat)(cv1:(List Ab))(n_:Nat)(data:(List Ac))(a_:Int)(b:Int):Option (List Ac) :=
 ((A9 n b a_ n_ cv1 (À (a_+1)) data
 ):Option (List Ac)).bind fun data1 =>
  some data1
def AI:Nat->Int->Nat->Int->Int->Int->(List Ac)->Option (List Ac)
 |0,_,_,_,_,_,_=>none
 |n+1,n_1,n_,b,a_,i,data2 =>
  bif (decide (i<n_1)) then
   (gx n_ (À (b+i))).bind fun _ =>
   (gi data2 (À (b+i))).bind fun x =>
   (gx n_ (À (a_+i))).bind fun _ =>
   (gi data2 (À (a_+i))).bind fun x1 =>
   (H8 data2 (À (a_+i)) x).bind fun data3 =>
   (H8 data3 (À (b+i)) x1).bind fun data4 =>
   AI n n_1 n_ b a_ (À (i+1)) data4
  else
   some data2
theorem CQ (n:Nat)(n_1:Int)(n_:Nat)(b:Int)(a_:Int)(i:Int)(data2:(List Ac)):AI (n+1) n_1 n_ b a_ i data2 =
 bif (decide (i<n_1)) then
  (gx n_ (À (b+i))).bind fun _ =>
  (gi data2 (À (b+i))).bind fun x =>
  (gx n_ (À (a_+i))).bind fun _ =>
  (gi data2 (À (a_+i))).bind fun x1 =>
  (H8 data2 (À (a_+i)) x).bind fun data3 =>
  (H8 data3 (À (b+i)) x1).bind fun data4 =>
  AI n n_1 n_ b a_ (À (i+1)) data4
 else
  some data2:=by rw [AI]
def AS (n:Nat)(cv1:(List Ab))(n_:Nat)(data:(List Ac))(a_:Int)(b:Int)(n_1:Int):Option (List Ac) :=
 ((AI n n_1 n_ b a_ 0 data
 ):Option (List Ac)).bind fun data1 =>
  some data1
def A3:Nat->(List Ab)->Nat->Int->Int->Int->(List Ac)->Option (Int×(List Ac))
 |0,_,_,_,_,_,_=>none
 |n+1,cv1,n_,m_1,i1,j,data3 =>
  bif (i1 != j) then
   bif (decide (j<i1)) then
    (AS n cv1 n_ data3 (À (m_1-i1)) m_1 j).bind fun data4 =>
    A3 n cv1 n_ m_1 (À (i1-j)) j data4
   else
    (AS n cv1 n_ data3 (À (m_1-i1)) (À ((À (m_1+j))-i1)) i1).bind fun data5 =>
    A3 n cv1 n_ m_1 i1 (À (j-i1)) data5
  else
   some (i1,data3)
theorem Cl (n:Nat)(cv1:(List Ab))(n_:Nat)(m_1:Int)(i1:Int)(j:Int)(data3:(List Ac)):A3 (n+1) cv1 n_ m_1 i1 j data3 =
 bif (i1 != j) then
  bif (decide (j<i1)) then
   (AS n cv1 n_ data3 (À (m_1-i1)) m_1 j).bind fun data4 =>
   A3 n cv1 n_ m_1 (À (i1-j)) j data4
  else
   (AS n cv1 n_ data3 (À (m_1-i1)) (À ((À (m_1+j))-i1)) i1).bind fun data5 =>
   A3 n cv1 n_ m_1 i1 (À (j-i1)) data5
 else
  some (i1,data3):=by rw [A3]
def Bp (n:Nat)(cv1:(List Ab))(n_:Nat)(data:(List Ac))(a_:Int)(m_1:Int)(b:Int):Option (List Ac) :=
 ((A3 n cv1 n_ m_1 (À (m_1-a_)) (À (b-m_1)) data
 ):Option (Int×(List Ac))).bind fun y=>match y with
 |(i,data1) =>
  (AS n cv1 n_ data1 (À (m_1-i)) m_1 i).bind fun data2 =>
  some data2
mutual
def AF:Nat->Int->Nat->Int->(List Ac)->Option (List Ac)
 |0,_,_,_,_=>none
 |n+1,i,n_,k,data2 =>
  bif (decide (k<(À (i-1)))) then
   (gx n_ (À (k+1))).bind fun _ =>
   (gi data2 (À (k+1))).bind fun x =>
   (gx n_ k).bind fun _ =>
   (gi data2 k).bind fun x1 =>
   (H8 data2 k x).bind fun data3 =>
   (H8 data3 (À (k+1)) x1).bind fun data4 =>
   AF n i n_ (À (k+1)) data4
  else
   some data2
def Aw:Nat->Nat->(List Ac)->Int->(List Ab)->Int->Int->Option Int
 |0,_,_,_,_,_,_=>none
 |n+1,n_,data,a_,cv1,i1,j =>
  bif (decide (i1<j)) then
   (gx n_ (À ((IntKind.u64.wrap (À (i1+j))).fdiv (2 ^ min (1:Int).toNat IntKind.u64.bits)))).bind fun _ =>
   (gi data (À ((IntKind.u64.wrap (À (i1+j))).fdiv (2 ^ min (1:Int).toNat IntKind.u64.bits)))).bind fun x2 =>
   (gx n_ a_).bind fun _ =>
   (gi data a_).bind fun x3 =>
   (Cd cv1 x2 x3).bind fun s =>
   bif (decide (s<0)) then
    Aw n n_ data a_ cv1 (À ((À ((IntKind.u64.wrap (À (i1+j))).fdiv (2 ^ min (1:Int).toNat IntKind.u64.bits)))+1)) j
   else
    Aw n n_ data a_ cv1 i1 (À ((IntKind.u64.wrap (À (i1+j))).fdiv (2 ^ min (1:Int).toNat IntKind.u64.bits)))
  else
   some i1
def AE:Nat->Int->Nat->Int->(List Ac)->Option (List Ac)
 |0,_,_,_,_=>none
 |n+1,i2,n_,k1,data6 =>
  bif (decide (i2<k1)) then
   (gx n_ (À (k1-1))).bind fun _ =>
   (gi data6 (À (k1-1))).bind fun x4 =>
   (gx n_ k1).bind fun _ =>
   (gi data6 k1).bind fun x5 =>
   (H8 data6 k1 x4).bind fun data7 =>
   (H8 data7 (À (k1-1)) x5).bind fun data8 =>
   AE n i2 n_ (À (k1-1)) data8
  else
   some data6
def Av:Nat->Nat->Int->(List Ac)->(List Ab)->Int->Int->Option Int
 |0,_,_,_,_,_,_=>none
 |n+1,n_,m_1,data,cv1,i3,j1 =>
  bif (decide (i3<j1)) then
   (gx n_ m_1).bind fun _ =>
   (gi data m_1).bind fun x6 =>
   (gx n_ (À ((IntKind.u64.wrap (À (i3+j1))).fdiv (2 ^ min (1:Int).toNat IntKind.u64.bits)))).bind fun _ =>
   (gi data (À ((IntKind.u64.wrap (À (i3+j1))).fdiv (2 ^ min (1:Int).toNat IntKind.u64.bits)))).bind fun x7 =>
   (Cd cv1 x6 x7).bind fun s1 =>
   bif (!(decide (s1<0))) then
    Av n n_ m_1 data cv1 (À ((À ((IntKind.u64.wrap (À (i3+j1))).fdiv (2 ^ min (1:Int).toNat IntKind.u64.bits)))+1)) j1
   else
    Av n n_ m_1 data cv1 i3 (À ((IntKind.u64.wrap (À (i3+j1))).fdiv (2 ^ min (1:Int).toNat IntKind.u64.bits)))
  else
   some i3
def Aq:Nat->Nat->Int->Int->Int->(List Ac)->(List Ab)->Int->Int->Option Int
 |0,_,_,_,_,_,_,_,_=>none
 |n+1,n_,a_,b,m_1,data,cv1,start2,r_1 =>
  bif (decide (start2<r_1)) then
   (gx n_ (À ((À ((À ((À ((IntKind.u64.wrap (À (a_+b))).fdiv (2 ^ min (1:Int).toNat IntKind.u64.bits)))+m_1))-1))-(À ((IntKind.u64.wrap (À (start2+r_1))).fdiv (2 ^ min (1:Int).toNat IntKind.u64.bits)))))).bind fun _ =>
   (gi data (À ((À ((À ((À ((IntKind.u64.wrap (À (a_+b))).fdiv (2 ^ min (1:Int).toNat IntKind.u64.bits)))+m_1))-1))-(À ((IntKind.u64.wrap (À (start2+r_1))).fdiv (2 ^ min (1:Int).toNat IntKind.u64.bits)))))).bind fun x8 =>
   (gx n_ (À ((IntKind.u64.wrap (À (start2+r_1))).fdiv (2 ^ min (1:Int).toNat IntKind.u64.bits)))).bind fun _ =>
   (gi data (À ((IntKind.u64.wrap (À (start2+r_1))).fdiv (2 ^ min (1:Int).toNat IntKind.u64.bits)))).bind fun x9 =>
   (Cd cv1 x8 x9).bind fun s2 =>
   bif (!(decide (s2<0))) then
    Aq n n_ a_ b m_1 data cv1 (À ((À ((IntKind.u64.wrap (À (start2+r_1))).fdiv (2 ^ min (1:Int).toNat IntKind.u64.bits)))+1)) r_1
   else
    Aq n n_ a_ b m_1 data cv1 start2 (À ((IntKind.u64.wrap (À (start2+r_1))).fdiv (2 ^ min (1:Int).toNat IntKind.u64.bits)))
  else
   some start2
def Ak:Nat->(List Ab)->Nat->(List Ac)->Int->Int->Int->Option (List Ac)
 |0,_,_,_,_,_,_=>none
 |n+1,cv1,n_,data,a_,m_1,b =>
  bif ((À (m_1-a_)) == 1) then
   ((Aw n n_ data a_ cv1 m_1 b
   ):Option Int).bind fun i =>
    ((AF n i n_ a_ data
    ):Option (List Ac)).bind fun data1 =>
     some data1
  else
   bif ((À (b-m_1)) == 1) then
    ((Av n n_ m_1 data cv1 a_ m_1
    ):Option Int).bind fun i2 =>
     ((AE n i2 n_ m_1 data
     ):Option (List Ac)).bind fun data5 =>
      some data5
   else
    ((bif (decide ((À ((IntKind.u64.wrap (À (a_+b))).fdiv (2 ^ min (1:Int).toNat IntKind.u64.bits)))<m_1)) then
     some ((À ((À ((À ((IntKind.u64.wrap (À (a_+b))).fdiv (2 ^ min (1:Int).toNat IntKind.u64.bits)))+m_1))-b)),(À ((IntKind.u64.wrap (À (a_+b))).fdiv (2 ^ min (1:Int).toNat IntKind.u64.bits))))
    else
     some (a_,m_1)
    ):Option (Int×Int)).bind fun y4=>match y4 with
    |(start,r_) =>
     ((Aq n n_ a_ b m_1 data cv1 start r_
     ):Option Int).bind fun start1 =>
      ((bif (decide (start1<m_1)) then
       some (decide (m_1<(À ((À ((À ((IntKind.u64.wrap (À (a_+b))).fdiv (2 ^ min (1:Int).toNat IntKind.u64.bits)))+m_1))-start1))))
      else
       some false
      ):Option Bool).bind fun v185 =>
       ((bif v185 then
        (Bp n cv1 n_ data start1 m_1 (À ((À ((À ((IntKind.u64.wrap (À (a_+b))).fdiv (2 ^ min (1:Int).toNat IntKind.u64.bits)))+m_1))-start1))).bind fun data13 =>
        some data13
       else
        some data
       ):Option (List Ac)).bind fun data9 =>
        ((bif (decide (a_<start1)) then
         some (decide (start1<(À ((IntKind.u64.wrap (À (a_+b))).fdiv (2 ^ min (1:Int).toNat IntKind.u64.bits)))))
        else
         some false
        ):Option Bool).bind fun v199 =>
         ((bif v199 then
          (Ak n cv1 n_ data9 a_ start1 (À ((IntKind.u64.wrap (À (a_+b))).fdiv (2 ^ min (1:Int).toNat IntKind.u64.bits)))).bind fun data12 =>
          some data12
         else
          some data9
         ):Option (List Ac)).bind fun data10 =>
          ((bif (decide ((À ((IntKind.u64.wrap (À (a_+b))).fdiv (2 ^ min (1:Int).toNat IntKind.u64.bits)))<(À ((À ((À ((IntKind.u64.wrap (À (a_+b))).fdiv (2 ^ min (1:Int).toNat IntKind.u64.bits)))+m_1))-start1)))) then
           some (decide ((À ((À ((À ((IntKind.u64.wrap (À (a_+b))).fdiv (2 ^ min (1:Int).toNat IntKind.u64.bits)))+m_1))-start1))<b))
          else
           some false
          ):Option Bool).bind fun v213 =>
           bif v213 then
            (Ak n cv1 n_ data10 (À ((IntKind.u64.wrap (À (a_+b))).fdiv (2 ^ min (1:Int).toNat IntKind.u64.bits))) (À ((À ((À ((IntKind.u64.wrap (À (a_+b))).fdiv (2 ^ min (1:Int).toNat IntKind.u64.bits)))+m_1))-start1)) b).bind fun data11 =>
            some data11
           else
            some data10
end
theorem Dc (n:Nat)(i:Int)(n_:Nat)(k:Int)(data2:(List Ac)):AF (n+1) i n_ k data2 =
 bif (decide (k<(À (i-1)))) then
  (gx n_ (À (k+1))).bind fun _ =>
  (gi data2 (À (k+1))).bind fun x =>
  (gx n_ k).bind fun _ =>
  (gi data2 k).bind fun x1 =>
  (H8 data2 k x).bind fun data3 =>
  (H8 data3 (À (k+1)) x1).bind fun data4 =>
  AF n i n_ (À (k+1)) data4
 else
  some data2:=by rw [AF]
theorem Db (n:Nat)(n_:Nat)(data:(List Ac))(a_:Int)(cv1:(List Ab))(i1:Int)(j:Int):Aw (n+1) n_ data a_ cv1 i1 j =
 bif (decide (i1<j)) then
  (gx n_ (À ((IntKind.u64.wrap (À (i1+j))).fdiv (2 ^ min (1:Int).toNat IntKind.u64.bits)))).bind fun _ =>
  (gi data (À ((IntKind.u64.wrap (À (i1+j))).fdiv (2 ^ min (1:Int).toNat IntKind.u64.bits)))).bind fun x2 =>
  (gx n_ a_).bind fun _ =>
  (gi data a_).bind fun x3 =>
  (Cd cv1 x2 x3).bind fun s =>
  bif (decide (s<0)) then
   Aw n n_ data a_ cv1 (À ((À ((IntKind.u64.wrap (À (i1+j))).fdiv (2 ^ min (1:Int).toNat IntKind.u64.bits)))+1)) j
  else
   Aw n n_ data a_ cv1 i1 (À ((IntKind.u64.wrap (À (i1+j))).fdiv (2 ^ min (1:Int).toNat IntKind.u64.bits)))
 else
  some i1:=by rw [Aw]
theorem Da (n:Nat)(i2:Int)(n_:Nat)(k1:Int)(data6:(List Ac)):AE (n+1) i2 n_ k1 data6 =
 bif (decide (i2<k1)) then
  (gx n_ (À (k1-1))).bind fun _ =>
  (gi data6 (À (k1-1))).bind fun x4 =>
  (gx n_ k1).bind fun _ =>
  (gi data6 k1).bind fun x5 =>
  (H8 data6 k1 x4).bind fun data7 =>
  (H8 data7 (À (k1-1)) x5).bind fun data8 =>
  AE n i2 n_ (À (k1-1)) data8
 else
  some data6:=by rw [AE]
theorem CZ (n:Nat)(n_:Nat)(m_1:Int)(data:(List Ac))(cv1:(List Ab))(i3:Int)(j1:Int):Av (n+1) n_ m_1 data cv1 i3 j1 =
 bif (decide (i3<j1)) then
  (gx n_ m_1).bind fun _ =>
  (gi data m_1).bind fun x6 =>
  (gx n_ (À ((IntKind.u64.wrap (À (i3+j1))).fdiv (2 ^ min (1:Int).toNat IntKind.u64.bits)))).bind fun _ =>
  (gi data (À ((IntKind.u64.wrap (À (i3+j1))).fdiv (2 ^ min (1:Int).toNat IntKind.u64.bits)))).bind fun x7 =>
  (Cd cv1 x6 x7).bind fun s1 =>
  bif (!(decide (s1<0))) then
   Av n n_ m_1 data cv1 (À ((À ((IntKind.u64.wrap (À (i3+j1))).fdiv (2 ^ min (1:Int).toNat IntKind.u64.bits)))+1)) j1
  else
   Av n n_ m_1 data cv1 i3 (À ((IntKind.u64.wrap (À (i3+j1))).fdiv (2 ^ min (1:Int).toNat IntKind.u64.bits)))
 else
  some i3:=by rw [Av]
theorem CY (n:Nat)(n_:Nat)(a_:Int)(b:Int)(m_1:Int)(data:(List Ac))(cv1:(List Ab))(start2:Int)(r_1:Int):Aq (n+1) n_ a_ b m_1 data cv1 start2 r_1 =
 bif (decide (start2<r_1)) then
  (gx n_ (À ((À ((À ((À ((IntKind.u64.wrap (À (a_+b))).fdiv (2 ^ min (1:Int).toNat IntKind.u64.bits)))+m_1))-1))-(À ((IntKind.u64.wrap (À (start2+r_1))).fdiv (2 ^ min (1:Int).toNat IntKind.u64.bits)))))).bind fun _ =>
  (gi data (À ((À ((À ((À ((IntKind.u64.wrap (À (a_+b))).fdiv (2 ^ min (1:Int).toNat IntKind.u64.bits)))+m_1))-1))-(À ((IntKind.u64.wrap (À (start2+r_1))).fdiv (2 ^ min (1:Int).toNat IntKind.u64.bits)))))).bind fun x8 =>
  (gx n_ (À ((IntKind.u64.wrap (À (start2+r_1))).fdiv (2 ^ min (1:Int).toNat IntKind.u64.bits)))).bind fun _ =>
  (gi data (À ((IntKind.u64.wrap (À (start2+r_1))).fdiv (2 ^ min (1:Int).toNat IntKind.u64.bits)))).bind fun x9 =>
  (Cd cv1 x8 x9).bind fun s2 =>
  bif (!(decide (s2<0))) then
   Aq n n_ a_ b m_1 data cv1 (À ((À ((IntKind.u64.wrap (À (start2+r_1))).fdiv (2 ^ min (1:Int).toNat IntKind.u64.bits)))+1)) r_1
  else
   Aq n n_ a_ b m_1 data cv1 start2 (À ((IntKind.u64.wrap (À (start2+r_1))).fdiv (2 ^ min (1:Int).toNat IntKind.u64.bits)))
 else
  some start2:=by rw [Aq]
theorem Ct (n:Nat)(cv1:(List Ab))(n_:Nat)(data:(List Ac))(a_:Int)(m_1:Int)(b:Int):Ak (n+1) cv1 n_ data a_ m_1 b =
 bif ((À (m_1-a_)) == 1) then
  ((Aw n n_ data a_ cv1 m_1 b
  ):Option Int).bind fun i =>
   ((AF n i n_ a_ data
   ):Option (List Ac)).bind fun data1 =>
    some data1
 else
  bif ((À (b-m_1)) == 1) then
   ((Av n n_ m_1 data cv1 a_ m_1
   ):Option Int).bind fun i2 =>
    ((AE n i2 n_ m_1 data
    ):Option (List Ac)).bind fun data5 =>
     some data5
  else
   ((bif (decide ((À ((IntKind.u64.wrap (À (a_+b))).fdiv (2 ^ min (1:Int).toNat IntKind.u64.bits)))<m_1)) then
    some ((À ((À ((À ((IntKind.u64.wrap (À (a_+b))).fdiv (2 ^ min (1:Int).toNat IntKind.u64.bits)))+m_1))-b)),(À ((IntKind.u64.wrap (À (a_+b))).fdiv (2 ^ min (1:Int).toNat IntKind.u64.bits))))
   else
    some (a_,m_1)
   ):Option (Int×Int)).bind fun y4=>match y4 with
   |(start,r_) =>
    ((Aq n n_ a_ b m_1 data cv1 start r_
    ):Option Int).bind fun start1 =>
     ((bif (decide (start1<m_1)) then
      some (decide (m_1<(À ((À ((À ((IntKind.u64.wrap (À (a_+b))).fdiv (2 ^ min (1:Int).toNat IntKind.u64.bits)))+m_1))-start1))))
     else
      some false
     ):Option Bool).bind fun v185 =>
      ((bif v185 then
       (Bp n cv1 n_ data start1 m_1 (À ((À ((À ((IntKind.u64.wrap (À (a_+b))).fdiv (2 ^ min (1:Int).toNat IntKind.u64.bits)))+m_1))-start1))).bind fun data13 =>
       some data13
      else
       some data
      ):Option (List Ac)).bind fun data9 =>
       ((bif (decide (a_<start1)) then
        some (decide (start1<(À ((IntKind.u64.wrap (À (a_+b))).fdiv (2 ^ min (1:Int).toNat IntKind.u64.bits)))))
       else
        some false
       ):Option Bool).bind fun v199 =>
        ((bif v199 then
         (Ak n cv1 n_ data9 a_ start1 (À ((IntKind.u64.wrap (À (a_+b))).fdiv (2 ^ min (1:Int).toNat IntKind.u64.bits)))).bind fun data12 =>
         some data12
        else
         some data9
        ):Option (List Ac)).bind fun data10 =>
         ((bif (decide ((À ((IntKind.u64.wrap (À (a_+b))).fdiv (2 ^ min (1:Int).toNat IntKind.u64.bits)))<(À ((À ((À ((IntKind.u64.wrap (À (a_+b))).fdiv (2 ^ min (1:Int).toNat IntKind.u64.bits)))+m_1))-start1)))) then
          some (decide ((À ((À ((À ((IntKind.u64.wrap (À (a_+b))).fdiv (2 ^ min (1:Int).toNat IntKind.u64.bits)))+m_1))-start1))<b))
         else
          some false
         ):Option Bool).bind fun v213 =>
          bif v213 then
           (Ak n cv1 n_ data10 (À ((IntKind.u64.wrap (À (a_+b))).fdiv (2 ^ min (1:Int).toNat IntKind.u64.bits))) (À ((À ((À ((IntKind.u64.wrap (À (a_+b))).fdiv (2 ^ min (1:Int).toNat IntKind.u64.bits)))+m_1))-start1)) b).bind fun data11 =>
           some data11
          else
           some data10:=by rw [Ak]
def A4:Nat->Int->(List Ab)->Nat->Int->Int->Int->(List Ac)->Option (Int×Int×(List Ac))
 |0,_,_,_,_,_,_,_=>none
 |n+1,n_1,cv1,n_,blockSize,a_3,b3,data7 =>
  bif (decide (b3<=n_1)) then
   (Ak n cv1 n_ data7 a_3 (À (a_3+blockSize)) b3).bind fun data8 =>
   A4 n n_1 cv1 n_ blockSize b3 (À (b3+(À (2*blockSize)))) data8
  else
   some (a_3,b3,data7)
theorem DA (n:Nat)(n_1:Int)(cv1:(List Ab))(n_:Nat)(blockSize:Int)(a_3:Int)(b3:Int)(data7:(List Ac)):A4 (n+1) n_1 cv1 n_ blockSize a_3 b3 data7 =
 bif (decide (b3<=n_1)) then
  (Ak n cv1 n_ data7 a_3 (À (a_3+blockSize)) b3).bind fun data8 =>
  A4 n n_1 cv1 n_ blockSize b3 (À (b3+(À (2*blockSize)))) data8
 else
  some (a_3,b3,data7):=by rw [A4]
def Ay:Nat->Int->(List Ab)->Nat->Int->Int->Int->(List Ac)->Option (List Ac)
 |0,_,_,_,_,_,_,_=>none
 |n+1,n_1,cv1,n_,blockSize,a_1,b1,data4 =>
  bif (decide (blockSize<n_1)) then
   ((A4 n n_1 cv1 n_ blockSize 0 (À (2*blockSize)) data4
   ):Option (Int×Int×(List Ac))).bind fun y2=>match y2 with
   |(a_2,b2,data5) =>
    bif (decide ((À (a_2+blockSize))<n_1)) then
     (Ak n cv1 n_ data5 a_2 (À (a_2+blockSize)) n_1).bind fun data6 =>
     Ay n n_1 cv1 n_ (À (blockSize*2)) a_2 b2 data6
    else
     Ay n n_1 cv1 n_ (À (blockSize*2)) a_2 b2 data5
  else
   some data4
theorem DB (n:Nat)(n_1:Int)(cv1:(List Ab))(n_:Nat)(blockSize:Int)(a_1:Int)(b1:Int)(data4:(List Ac)):Ay (n+1) n_1 cv1 n_ blockSize a_1 b1 data4 =
 bif (decide (blockSize<n_1)) then
  ((A4 n n_1 cv1 n_ blockSize 0 (À (2*blockSize)) data4
  ):Option (Int×Int×(List Ac))).bind fun y2=>match y2 with
  |(a_2,b2,data5) =>
   bif (decide ((À (a_2+blockSize))<n_1)) then
    (Ak n cv1 n_ data5 a_2 (À (a_2+blockSize)) n_1).bind fun data6 =>
    Ay n n_1 cv1 n_ (À (blockSize*2)) a_2 b2 data6
   else
    Ay n n_1 cv1 n_ (À (blockSize*2)) a_2 b2 data5
 else
  some data4:=by rw [Ay]
def A6:Nat->Int->(List Ab)->Nat->Int->Int->(List Ac)->Option (Int×Int×(List Ac))
 |0,_,_,_,_,_,_=>none
 |n+1,n_1,cv1,n_,a_4,b4,data9 =>
  bif (decide (b4<=n_1)) then
   (A8 n cv1 n_ data9 a_4 b4).bind fun data10 =>
   A6 n n_1 cv1 n_ b4 (À (b4+20)) data10
  else
   some (a_4,b4,data9)
theorem D9 (n:Nat)(n_1:Int)(cv1:(List Ab))(n_:Nat)(a_4:Int)(b4:Int)(data9:(List Ac)):A6 (n+1) n_1 cv1 n_ a_4 b4 data9 =
 bif (decide (b4<=n_1)) then
  (A8 n cv1 n_ data9 a_4 b4).bind fun data10 =>
  A6 n n_1 cv1 n_ b4 (À (b4+20)) data10
 else
  some (a_4,b4,data9):=by rw [A6]
def B7 (n:Nat)(cv1:(List Ab))(n_:Nat)(data:(List Ac))(n_1:Int):Option (List Ac) :=
 ((A6 n n_1 cv1 n_ 0 20 data
 ):Option (Int×Int×(List Ac))).bind fun y=>match y with
 |(a_,b,data1) =>
  (A8 n cv1 n_ data1 a_ n_1).bind fun data2 =>
  ((Ay n n_1 cv1 n_ 20 a_ b data2
  ):Option (List Ac)).bind fun data3 =>
   some data3
def BS (n:Nat)(cv1:(List Ab))(n_:Nat)(x:(List Ac)):Option (List Ac) :=
 (B7 n cv1 n_ x (n_:Int)).bind fun x1 =>
 some x1
def BP:Nat->(List Ab)->Al->Int->(List Ac)->Int->Option (List Ac)
 |0,_,_,_,_,_=>none
 |n+1,l,d,known,out1,v30 =>
  bif (decide (v30<(l.length:Int))) then
   (gi l v30).bind fun x =>
   (EG n x d known).bind fun s =>
   bif s.2.2.1 then
    (Cs 25 out1 [(Ac.mk s.1 s.2.1 v30)]).bind fun l2 =>
    BP n l d known l2 (À (v30+1))
   else
    BP n l d known out1 (À (v30+1))
  else
   some out1
theorem ID (n:Nat)(l:(List Ab))(d:Al)(known:Int)(out1:(List Ac))(v30:Int):BP (n+1) l d known out1 v30 =
 bif (decide (v30<(l.length:Int))) then
  (gi l v30).bind fun x =>
  (EG n x d known).bind fun s =>
  bif s.2.2.1 then
   (Cs 25 out1 [(Ac.mk s.1 s.2.1 v30)]).bind fun l2 =>
   BP n l d known l2 (À (v30+1))
  else
   BP n l d known out1 (À (v30+1))
 else
  some out1:=by rw [BP]
def Cw (n:Nat)(l:(List Ab))(d:Al)(known:Int):Option ((List Ac)×Int) :=
 (EX n l).bind fun e =>
 bif (e != 0) then
  some ([],e)
 else
  (EW n d known).bind fun e1 =>
  bif (e1 != 0) then
   some ([],e1)
  else
   ((BP n l d known [] 0
   ):Option (List Ac)).bind fun out =>
    bif out.isEmpty then
     some ([],0)
    else
     (BS n l out.length out).bind fun l1 =>
     bif (l1.length == out.length) then
      some (l1,0)
     else
      none
def C0 (s:Ac)(day:Int):Option Bool :=
 ((bif (decide (s.from_<=day)) then
  some (decide (day<=s.to_))
 else
  some false
 ):Option Bool).bind fun v4 =>
  some v4
def CJ (h_:Int)(other:Int):Option Int :=
 bif ((bits .and .i64 h_ other) == 0) then
  some h_
 else
  some (bits .and .i64 h_ other)
def B0:Nat->(List Ac)->(List Ab)->Ab->Int->Int->Int->Bool->Option (Int×Int×Bool)
 |0,_,_,_,_,_,_,_=>none
 |n+1,s,l,x1,day,i2,common1,some_1 =>
  ((bif (decide (i2<(s.length:Int))) then
   (gi s i2).bind fun x4 =>
   (gi l x4.clause).bind fun x5 =>
   some (x5.Rank == x1.Rank)
  else
   some false
  ):Option Bool).bind fun v43 =>
   bif v43 then
    (gi s i2).bind fun x2 =>
    (gi l x2.clause).bind fun x3 =>
    ((bif (x3.Kind == 3) then
     (C0 x2 day).bind fun a_ =>
     some a_
    else
     some false
    ):Option Bool).bind fun v64 =>
     bif v64 then
      B0 n s l x1 day (À (i2+1)) (bits .and .i64 common1 x3.Houses) true
     else
      B0 n s l x1 day (À (i2+1)) common1 some_1
   else
    some (i2,common1,some_1)
theorem IB (n:Nat)(s:(List Ac))(l:(List Ab))(x1:Ab)(day:Int)(i2:Int)(common1:Int)(some_1:Bool):B0 (n+1) s l x1 day i2 common1 some_1 =
 ((bif (decide (i2<(s.length:Int))) then
  (gi s i2).bind fun x4 =>
  (gi l x4.clause).bind fun x5 =>
  some (x5.Rank == x1.Rank)
 else
  some false
 ):Option Bool).bind fun v43 =>
  bif v43 then
   (gi s i2).bind fun x2 =>
   (gi l x2.clause).bind fun x3 =>
   ((bif (x3.Kind == 3) then
    (C0 x2 day).bind fun a_ =>
    some a_
   else
    some false
   ):Option Bool).bind fun v64 =>
    bif v64 then
     B0 n s l x1 day (À (i2+1)) (bits .and .i64 common1 x3.Houses) true
    else
     B0 n s l x1 day (À (i2+1)) common1 some_1
  else
   some (i2,common1,some_1):=by rw [B0]
def Cb:Nat->(List Ac)->(List Ab)->Int->Int->Int->Option (Int ⊕ Int)
 |0,_,_,_,_,_=>none
 |n+1,s,l,day,out1,i =>
  bif (decide (i<(s.length:Int))) then
   (gi s i).bind fun x =>
   (gi l x.clause).bind fun x1 =>
   ((B0 n s l x1 day i 4095 false
   ):Option (Int×Int×Bool)).bind fun y1=>match y1 with
   |(i1,common,some_) =>
    ((bif some_ then
     some (common == 0)
    else
     some false
    ):Option Bool).bind fun v71 =>
     bif v71 then
      some (.inr 0)
     else
      bif some_ then
       (CJ out1 common).bind fun out2 =>
       Cb n s l day out2 i1
      else
       Cb n s l day out1 i1
  else
   some (.inl out1)
theorem Gr (n:Nat)(s:(List Ac))(l:(List Ab))(day:Int)(out1:Int)(i:Int):Cb (n+1) s l day out1 i =
 bif (decide (i<(s.length:Int))) then
  (gi s i).bind fun x =>
  (gi l x.clause).bind fun x1 =>
  ((B0 n s l x1 day i 4095 false
  ):Option (Int×Int×Bool)).bind fun y1=>match y1 with
  |(i1,common,some_) =>
   ((bif some_ then
    some (common == 0)
   else
    some false
   ):Option Bool).bind fun v71 =>
    bif v71 then
     some (.inr 0)
    else
     bif some_ then
      (CJ out1 common).bind fun out2 =>
      Cb n s l day out2 i1
     else
      Cb n s l day out1 i1
 else
  some (.inl out1):=by rw [Cb]
def IC (n:Nat)(l:(List Ab))(s:(List Ac))(day:Int):Option Int :=
 ((Cb n s l day 4095 0
 ):Option (Int ⊕ Int)).bind fun y=>match y with
 |.inl out =>
  some out
 |.inr o=>some o
def BZ:Nat->(List Ac)->(List Ab)->Int->Int->Int->Int->(List Int)->Option (Int×(List Int))
 |0,_,_,_,_,_,_,_=>none
 |n+1,s,l,day,rank,v19,out2,out3 =>
  bif (decide (v19<(s.length:Int))) then
   (gi s v19).bind fun x =>
   (gi l x.clause).bind fun x1 =>
   ((bif (x1.Kind == 3) then
    some true
   else
    (C0 x day).bind fun a_ =>
    bif (!a_) then
     some true
    else
     some (decide (x1.Rank<rank))
   ):Option Bool).bind fun v42 =>
    bif v42 then
     BZ n s l day rank (À (v19+1)) out2 out3
    else
     (Cs 9 out3 [x.clause]).bind fun l1 =>
     bif (out2 == 0) then
      BZ n s l day x1.Rank (À (v19+1)) x1.Kind l1
     else
      bif (out2 != x1.Kind) then
       BZ n s l day x1.Rank (À (v19+1)) 3 l1
      else
       BZ n s l day x1.Rank (À (v19+1)) out2 l1
  else
   some (out2,out3)
theorem K0 (n:Nat)(s:(List Ac))(l:(List Ab))(day:Int)(rank:Int)(v19:Int)(out2:Int)(out3:(List Int)):BZ (n+1) s l day rank v19 out2 out3 =
 bif (decide (v19<(s.length:Int))) then
  (gi s v19).bind fun x =>
  (gi l x.clause).bind fun x1 =>
  ((bif (x1.Kind == 3) then
   some true
  else
   (C0 x day).bind fun a_ =>
   bif (!a_) then
    some true
   else
    some (decide (x1.Rank<rank))
  ):Option Bool).bind fun v42 =>
   bif v42 then
    BZ n s l day rank (À (v19+1)) out2 out3
   else
    (Cs 9 out3 [x.clause]).bind fun l1 =>
    bif (out2 == 0) then
     BZ n s l day x1.Rank (À (v19+1)) x1.Kind l1
    else
     bif (out2 != x1.Kind) then
      BZ n s l day x1.Rank (À (v19+1)) 3 l1
     else
      BZ n s l day x1.Rank (À (v19+1)) out2 l1
 else
  some (out2,out3):=by rw [BZ]
def Hx (n:Nat)(l:(List Ab))(s:(List Ac))(day:Int):Option Bh :=
 (IC n l s day).bind fun w =>
 ((BZ n s l day (-1) 0 0 []
 ):Option (Int×(List Int))).bind fun y=>match y with
 |(out,out1) =>
  bif out1.isEmpty then
   some (Bh.mk out w [])
  else
   (OB out1).bind fun data =>
   bif (data.length == out1.length) then
    some (Bh.mk out w data)
   else
    none
def Cn:Nat->(List Ac)->Int->(List Int)->Option (List Int)
 |0,_,_,_=>none
 |n+1,s,v9,l1 =>
  bif (decide (v9<(s.length:Int))) then
   (gi s v9).bind fun x =>
   (Cs 9 l1 [x.from_,(À (x.to_+1))]).bind fun l2 =>
   Cn n s (À (v9+1)) l2
  else
   some l1
theorem HR (n:Nat)(s:(List Ac))(v9:Int)(l1:(List Int)):Cn (n+1) s v9 l1 =
 bif (decide (v9<(s.length:Int))) then
  (gi s v9).bind fun x =>
  (Cs 9 l1 [x.from_,(À (x.to_+1))]).bind fun l2 =>
  Cn n s (À (v9+1)) l2
 else
  some l1:=by rw [Cn]
def EA (n:Nat)(s:(List Ac)):Option (List Int) :=
 ((Cn n s 0 [0]
 ):Option (List Int)).bind fun l =>
  bif l.isEmpty then
   none
  else
   (OB l).bind fun data =>
   bif (data.length == l.length) then
    some data
   else
    none
def Bj (n:Nat)(l:(List Ab))(s:((List Ac)×Int)):List Int->(List Ar)->Option ((List Ar)×Int)
 | [],out =>
  some (out,0)
 |day::days,out =>
  (Hx n l s.1 day).bind fun x =>
  bif out.isEmpty then
   (Cs 33 [] [(Ar.mk day 41666 x.State x.Houses)]).bind fun l1 =>
   Bj n l s days l1
  else
   ((bif (decide (0<(out.length:Int))) then
    (gx out.length (À ((out.length:Int)-1))).bind fun _ =>
    (gi out (À ((out.length:Int)-1))).bind fun x1 =>
    bif (x1.State == x.State) then
     some (x1.Houses == x.Houses)
    else
     some false
   else
    some false
   ):Option Bool).bind fun v56 =>
    bif v56 then
     bif (out.length == out.length) then
      Bj n l s days out
     else
      none
    else
     bif (decide (0<(out.length:Int))) then
      (gx out.length (À ((out.length:Int)-1))).bind fun _ =>
      (YM out (À ((out.length:Int)-1)) (fun z=>{ z with To:=(À (day-1)) })).bind fun l2 =>
      bif (l2.length == out.length) then
       (Cs 33 l2 [(Ar.mk day 41666 x.State x.Houses)]).bind fun l3 =>
       Bj n l s days l3
      else
       none
     else
      bif (out.length == out.length) then
       (Cs 33 out [(Ar.mk day 41666 x.State x.Houses)]).bind fun l4 =>
       Bj n l s days l4
      else
       none
def Ca (n:Nat)(l:(List Ab))(d:Al)(known:Int):Option ((List Ar)×Int) :=
 (Cw n l d known).bind fun s =>
 bif (s.2 != 0) then
  some ([],s.2)
 else
  (EA n s.1).bind fun zs =>
  bif zs.isEmpty then
   none
  else
  bif decide (zs.length*8<=140737488351232) then
   Bj n l s (D4 zs) []
  else
   none
def DH (n:Nat)(l:(List Ab))(d:Al)(day:Int)(known:Int):Option (Bh×Int) :=
 (Cw n l d known).bind fun s =>
 bif (s.2 != 0) then
  some ((Bh.mk 0 0 []),s.2)
 else
  ((bif (decide (day<0)) then
   some true
  else
   some (decide (41666<day))
  ):Option Bool).bind fun v28 =>
   bif v28 then
    some ((Bh.mk 0 0 []),1)
   else
    (Hx n l s.1 day).bind fun a_ =>
    some (a_,0)
def Bm:Nat->((List Ar)×Int)->Al->Int->Int->Int->Option (Int×Int)
 |0,_,_,_,_,_=>none
 |n+1,s,d,keep1,drop1,v24 =>
  bif (decide (v24<(s.1.length:Int))) then
   (gi s.1 v24).bind fun x =>
   bif (x.State == 1) then
    Bm n s d x.To drop1 (À (v24+1))
   else
    ((bif (x.State == 2) then
     some (decide (d.Stored<=x.To))
    else
     some false
    ):Option Bool).bind fun v34 =>
     bif v34 then
      Bm n s d keep1 (if (if d.Stored > x.From then d.Stored else x.From)<drop1 then (if d.Stored > x.From then d.Stored else x.From) else drop1) (À (v24+1))
     else
      Bm n s d keep1 drop1 (À (v24+1))
  else
   some (keep1,drop1)
theorem HS (n:Nat)(s:((List Ar)×Int))(d:Al)(keep1:Int)(drop1:Int)(v24:Int):Bm (n+1) s d keep1 drop1 v24 =
 bif (decide (v24<(s.1.length:Int))) then
  (gi s.1 v24).bind fun x =>
  bif (x.State == 1) then
   Bm n s d x.To drop1 (À (v24+1))
  else
   ((bif (x.State == 2) then
    some (decide (d.Stored<=x.To))
   else
    some false
   ):Option Bool).bind fun v34 =>
    bif v34 then
     Bm n s d keep1 (if (if d.Stored > x.From then d.Stored else x.From)<drop1 then (if d.Stored > x.From then d.Stored else x.From) else drop1) (À (v24+1))
    else
     Bm n s d keep1 drop1 (À (v24+1))
 else
  some (keep1,drop1):=by rw [Bm]
def EB (n:Nat)(l:(List Ab))(d:Al)(known:Int):Option (Int×Int×Int) :=
 (Ca n l d known).bind fun s =>
 bif (s.2 != 0) then
  some (0,0,s.2)
 else
  ((Bm n s d (-1) 41667 0
  ):Option (Int×Int)).bind fun y=>match y with
  |(keep,drop) =>
   some (keep,drop,0)
def ET (n:Nat)(l:(List Ab))(s:((List Ac)×Int))(s1:((List Ac)×Int)):List Int->Option (Int×Int)
 | [] =>
  some (41667,0)
 |day::days =>
  (Hx n l s.1 day).bind fun x =>
  (Hx n l s1.1 day).bind fun y1 =>
  ((bif (x.State != y1.State) then
   some true
  else
   some (x.Houses != y1.Houses)
  ):Option Bool).bind fun v61 =>
   bif v61 then
    some (day,0)
   else
    ET n l s s1 days
def Ic (n:Nat)(l:(List Ab))(d:Al)(known:Int)(later:Int):Option (Int×Int) :=
 (Cw n l d known).bind fun s =>
 bif (s.2 != 0) then
  some (0,s.2)
 else
  (Cw n l d later).bind fun s1 =>
  bif (s1.2 != 0) then
   some (0,s1.2)
  else
   ((bif s.1.isEmpty then
    (Cs 25 [] s1.1).bind fun l1 =>
    (EA n l1).bind fun zs =>
    some zs
   else
    (Cs 25 [] s.1).bind fun c =>
    (Cs 25 c s1.1).bind fun l2 =>
    (EA n l2).bind fun zs1 =>
    some zs1
   ):Option (List Int)).bind fun q =>
    bif q.isEmpty then
     none
    else
    bif decide (q.length*8<=140737488351232) then
     ET n l s s1 (D4 q)
    else
     none
abbrev Lo (l:List Ac):PV:=hP l CM
abbrev NY (l:List Ar):PV:=hP l DU
end Go.Sp
namespace Go.Sp
open Go Go.Vl
set_option linter.unusedVariables false
def Hr:Nat->Bh->Bh->Int->Option (Unit ⊕ Bool)
 |0,_,_,_=>none
 |n+1,a_,b,k =>
  bif (decide (k<(a_.By.length:Int))) then
   (gi a_.By k).bind fun x =>
   (gi b.By k).bind fun x1 =>
   bif (x != x1) then
    some (.inr false)
   else
    Hr n a_ b (À (k+1))
  else
   some (.inl ())
def Mu (n:Nat)(a_:Bh)(b:Bh):Option Bool :=
 ((bif (a_.State != b.State) then
  some true
 else
  bif (a_.Houses != b.Houses) then
   some true
  else
   some ((a_.By.length:Int) != (b.By.length:Int))
 ):Option Bool).bind fun v26 =>
  bif v26 then
   some false
  else
   ((Hr n a_ b 0
   ):Option (Unit ⊕ Bool)).bind fun y1=>match y1 with
   |.inl _ =>
    some true
   |.inr o=>some o
def Dt:Nat->(List Ar)->(List Ar)->Int->Option (Unit ⊕ Bool)
 |0,_,_,_=>none
 |n+1,a_,b,k =>
  bif (decide (k<(a_.length:Int))) then
   (gi a_ k).bind fun x =>
   (gi b k).bind fun x1 =>
   bif (!((x.From == x1.From)&&((x.To == x1.To)&&((x.State == x1.State)&&((x.Houses == x1.Houses)&&true))))) then
    some (.inr false)
   else
    Dt n a_ b (À (k+1))
  else
   some (.inl ())
def FW (n:Nat)(a_:(List Ar))(b:(List Ar)):Option Bool :=
 bif ((a_.length:Int) != (b.length:Int)) then
  some false
 else
  ((Dt n a_ b 0
  ):Option (Unit ⊕ Bool)).bind fun y=>match y with
  |.inl _ =>
   some true
  |.inr o=>some o
def Ih (n:Nat)(l:(List Ab))(d:Al):Option Bool :=
 (((J0 n l 300).bind fun f =>
 bif f then
  bif (decide ((d.Facts.length:Int)<=30)) then
   some true
  else
   bif (decide (200<(d.Facts.length:Int))) then
    some (decide ((d.Facts.length:Int)<205))
   else
    some false
 else
  some false
 ):Option Bool).bind fun v4 =>
  some v4
def GR (n:Nat)(l:(List Ab))(d:Al)(day:Int)(known:Int)(want:Bh):Option Bool :=
 (DH n l d day known).bind fun a_ =>
 ((bif (a_.2 == 0) then
  (Mu n a_.1 want).bind fun s =>
  some s
 else
  some false
 ):Option Bool).bind fun v10 =>
  some v10
def Kd (n:Nat):Option Bool :=
 (HI n ⟨#[107,101,101,112,32,116,97,120,32,50,32,48,32,40,115,116,111,114,101,100,41,32,40,115,116,111,114,101,100,32,43,32,49,48,48,41,32,40,48,32,61,61,32,48,41,59,32,100,114,111,112,32,119,105,115,104,32,49,32,48,32,40,97,115,107,101,100,40,111,119,110,101,114,41,41,32,40,110,101,118,101,114,41,32,40,97,115,107,101,100,40,111,119,110,101,114,41,32,60,32,110,101,118,101,114,41,59,32,100,114,111,112,32,101,110,100,32,50,32,48,32,40,115,116,111,114,101,100,32,43,32,49,48,48,41,32,40,110,101,118,101,114,41,32,40,48,32,61,61,32,48,41,59,32,112,108,97,99,101,32,104,111,109,101,32,49,32,48,32,40,100,97,121,40,48,41,41,32,40,110,101,118,101,114,41,32,40,48,32,61,61,32,48,41,32,45,62,32,48,32,50,59,32,112,108,97,99,101,32,119,97,114,32,51,32,50,48,32,40,100,97,121,40,53,48,41,41,32,40,110,101,118,101,114,41,32,40,48,32,61,61,32,48,41,32,45,62,32,49,32,50,59]⟩).bind fun c =>
 (some [(BA.mk 3 4 30 40)]).bind fun l =>
 ((bif ((c.2.At == 0)&&((c.2.E == 0)&&true)) then
  (some [0]).bind fun l7 =>
  (GR n c.1 (Al.mk l 10 4) 30 40 (Bh.mk 1 5 l7)).bind fun i3 =>
  bif i3 then
   (GR n c.1 (Al.mk l 10 4) 5 40 (Bh.mk 0 5 [])).bind fun i4 =>
   bif i4 then
    (some [0]).bind fun l8 =>
    (GR n c.1 (Al.mk l 10 4) 60 40 (Bh.mk 1 4 l8)).bind fun i5 =>
    some i5
   else
    some false
  else
   some false
 else
  some false
 ):Option Bool).bind fun one =>
  (((some [0,2]).bind fun l4 =>
  (GR n c.1 (Al.mk l 10 4) 110 40 (Bh.mk 3 4 l4)).bind fun i =>
  bif i then
   (some [2]).bind fun l5 =>
   (GR n c.1 (Al.mk l 10 4) 120 40 (Bh.mk 2 4 l5)).bind fun i1 =>
   bif i1 then
    (some [0]).bind fun l6 =>
    (GR n c.1 (Al.mk l 10 4) 60 10 (Bh.mk 1 5 l6)).bind fun i2 =>
    some i2
   else
    some false
  else
   some false
  ):Option Bool).bind fun two =>
   (Ca n c.1 (Al.mk l 10 4) 40).bind fun s =>
   (EB n c.1 (Al.mk l 10 4) 40).bind fun b =>
   (Ic n c.1 (Al.mk l 10 4) 10 40).bind fun l1 =>
   (Ic n c.1 (Al.mk l 10 4) 20 40).bind fun l2 =>
   (some [(Ar.mk 0 9 0 5),(Ar.mk 10 49 1 5),(Ar.mk 50 109 1 4),(Ar.mk 110 110 3 4),(Ar.mk 111 41666 2 4)]).bind fun l3 =>
   ((bif one then
    bif two then
     bif (s.2 == 0) then
      (FW n s.1 l3).bind fun s1 =>
      bif s1 then
       bif (b.2.2 == 0) then
        bif (b.1 == 109) then
         bif (b.2.1 == 111) then
          bif (l1.2 == 0) then
           bif (l1.1 == 50) then
            bif (l2.2 == 0) then
             some (l2.1 == 41667)
            else
             some false
           else
            some false
          else
           some false
         else
          some false
        else
         some false
       else
        some false
      else
       some false
     else
      some false
    else
     some false
   else
    some false
   ):Option Bool).bind fun v0_ =>
    some v0_
def TA:Option Bool:=Kd 60
end Go.Sp
