/-
  Chapter 33 as plain functions, first part: parsing, the operations, find and value; no program. (Printed by lift.py, but for what the lexer answers.) Plain functions with fuel: what holds for all large fuel. No program. The table of operations, as a plain list for every order of the map of comparisons. (The pieces printed by lift.py.) The table of operations: what its pieces compute. The names' types; the table as one of many lists. No program. What find finds, in plain words, whatever order the table of operations is in. No program. The search ends alike in every order of the table; find, in plain words. No program. What value computes, in plain words, whatever order the table of operations is in. No program. Statute as plain functions: what is exported, the specification; no program. (Printed by lift.py.) Expressions and dossiers in memory, opened. Lists of clauses in memory, opened. Pairs of days and bytes, opened. Private vectors: slices that are written in place later. No program. Words for private vectors and arrays that are written in place. No program. A range over a function, in plain values. The iterator reads a slice of ints that is behind a box, and may write the array; the two are no places of the walk while the loop runs. The rule for a range over a function. A function that ranges over a function. Words for a range over a function. The contracts of slices.Sort and slices.Compact, laid at this program (written by the kit's own tools, in plain words). slices.Sort of ints, as a function of an array that is a place. Duty as plain functions. (Printed by lift.py.) What the laws of duty share, as plain functions. (Printed by lift.py.) DutyStretchesCover as a plain function. (Printed by lift.py.) Lists of 16-bit numbers and triples of days in memory, opened.
-/
import Derived.Lib.Join
import Derived.Lib.ItoaNum
import Derived.Lib.EndianBits
import Derived.Shelf.Sort.Plain
import Derived.Shelf.Slices.In.SortNone
import Derived.Shelf.Slices.CompactI
import Derived.Test.YtehfpameijkafaaGreatDoorProg
import Derived.SizedLaws
import Derived.Test.YtehfpameijkafaaGreatDoorX4
import Derived.Test.YtehfpameijkafaaGreatDoorX6
import Derived.Test.YtehfpameijkafaaGreatDoorX9
import Derived.Test.YtehfpameijkafaaGreatDoorX10
set_option linter.unusedVariables false
set_option linter.unusedSimpArgs false
namespace Go.Sp
open Go Go.Vl
set_option linter.unusedVariables false
structure Aq where
 Kind:Int
 At:Int
 S:Æ
 N:Int
def Fx (x:Aq):List PV:=[iP x.Kind,iP x.At,tP x.S,iP x.N]
theorem Kc (x:Aq):Fx x=[iP x.Kind,iP x.At,tP x.S,iP x.N]:=rfl
theorem J2 (x:Aq):(Fx x).length=4:=rfl
def Cy:Rw Aq:=⟨Fx,_,4,Kc,J2⟩
structure Am where
 At:Int
 E:Int
structure AF where
 sign:Æ
 op:Int
 level:Int
def EI (x:AF):List PV:=[tP x.sign,iP x.op,iP x.level]
theorem MQ (x:AF):EI x=[tP x.sign,iP x.op,iP x.level]:=rfl
theorem LU (x:AF):(EI x).length=3:=rfl
def Fs:Rw AF:=⟨EI,_,3,MQ,LU⟩
structure Ad where
 l:(List Aq)
 forms:Int
structure Af where
 Op:Int
 N:Int
 S:Æ
 Kids:(List Af)
 At:Int
mutual
def Bd:Af->List PV
 |.mk fOp fN fS fKids fAt=>[iP fOp,iP fN,tP fS,.sl (HU fKids) .shared,iP fAt]
def HU:List Af->List (List PV)
 | []=>[]
 |x::l=>Bd x::HU l
end
theorem Kb:∀ l:List Af,HU l=l.map Bd
 | []=>rfl
 |x::l=>by rw [HU,Kb l];rfl
theorem GL (x:Af):Bd x=[iP x.Op,iP x.N,tP x.S,hP x.Kids Bd,iP x.At]:=by
 cases x;rw [Bd];simp only [Kb]
theorem Ke (x:Af):(Bd x).length=5:=by rw [GL];rfl
def AZ:Rw Af:=⟨Bd,_,5,GL,Ke⟩
structure B6 where
 Kind:Int
 N:Int
 S:Æ
 E:Af
 At:Int
def Ge (x:B6):List PV:=[iP x.Kind,iP x.N,tP x.S,iP x.E.Op,iP x.E.N,tP x.E.S,hP x.E.Kids Bd,iP x.E.At,iP x.At]
theorem QP (x:B6):Ge x=[iP x.Kind,iP x.N,tP x.S,iP x.E.Op,iP x.E.N,tP x.E.S,hP x.E.Kids Bd,iP x.E.At,iP x.At]:=rfl
theorem PT (x:B6):(Ge x).length=9:=rfl
def Bl:Rw B6:=⟨Ge,_,9,QP,PT⟩
structure Ax where
 Word:Æ
 Args:(List B6)
 Body:(List Ax)
 At:Int
mutual
def Cz:Ax->List PV
 |.mk fWord fArgs fBody fAt=>[tP fWord,hP fArgs Ge,.sl (HT fBody) .shared,iP fAt]
def HT:List Ax->List (List PV)
 | []=>[]
 |x::l=>Cz x::HT l
end
theorem Ka:∀ l:List Ax,HT l=l.map Cz
 | []=>rfl
 |x::l=>by rw [HT,Ka l];rfl
theorem GK (x:Ax):Cz x=[tP x.Word,hP x.Args Ge,hP x.Body Cz,iP x.At]:=by
 cases x;rw [Cz];simp only [Ka]
theorem HK (x:Ax):(Cz x).length=4:=by rw [GK];rfl
def ER:Rw Ax:=⟨Cz,_,4,GK,HK⟩
structure Ar where
 At:Int
 E:Int
structure Br where
 Kind:Int
 Who:Int
 Day:Int
 Known:Int
def DB (x:Br):List PV:=[iP x.Kind,iP x.Who,iP x.Day,iP x.Known]
theorem Lg (x:Br):DB x=[iP x.Kind,iP x.Who,iP x.Day,iP x.Known]:=rfl
theorem Kd (x:Br):(DB x).length=4:=rfl
def Bz:Rw Br:=⟨DB,_,4,Lg,Kd⟩
structure Ai where
 Facts:(List Br)
 Stored:Int
 Owner:Int
def I1 (x:Ai):List PV:=[hP x.Facts DB,iP x.Stored,iP x.Owner]
theorem Ji (x:Ai):I1 x=[hP x.Facts DB,iP x.Stored,iP x.Owner]:=rfl
structure Ah where
 d:Ai
 known:Int
structure Ac where
 op:Int
 name:Æ
 args:(List Int)
 kind:Int
 do_:Do
def BH (x:Int):List PV:=[iP x]
theorem Bu (x:Int):BH x=[iP x]:=rfl
theorem LV (x:Int):(BH x).length=1:=rfl
def An:Rw Int:=⟨BH,_,1,Bu,LV⟩
def AN (x:Ac):List PV:=[iP x.op,tP x.name,hP x.args BH,iP x.kind,.fno (MG x.do_) (Lh x.do_) (Lw x.do_)]
theorem BS (x:Ac):AN x=[iP x.op,tP x.name,hP x.args BH,iP x.kind,.fno (MG x.do_) (Lh x.do_) (Lw x.do_)]:=rfl
theorem Co (x:Ac):(AN x).length=5:=rfl
def Ii:Rw Ac:=⟨AN,_,5,BS,Co⟩
structure Bp where
 ops:(List Ac)
 names:(List (ByteArray×Int))
def Gc (x:Æ):List PV:=[tP x]
theorem JP (x:Æ):Gc x=[tP x]:=rfl
theorem LS (x:Æ):(Gc x).length=1:=rfl
def M7:Rw Æ:=⟨Gc,_,1,JP,LS⟩
def tkT (t:Lx.Tok):Aq:=⟨(t.kind:Int),(t.at_:Int),⟨⟨t.s⟩⟩,(t.n:Int)⟩
def Om (src:Æ):List Aq×Am :=
 if 65536<src.size then ([],⟨0,2⟩)
 else match Lx.tokens src.data.toList with
  |.ok ts=>(ts.map tkT,⟨0,0⟩)
  |.error (p,e)=>([],⟨(p:Int),(e:Int)⟩)
def Bf:Æ:=⟨#[107,101,101,112,32,116,97,120,32,50,32,48,32,40,115,116,111,114,101,100,41,32,40,115,116,111,114,101,100,32,43,32,49,48,48,41,32,40,48,32,61,61,32,48,41,59,32,100,114,111,112,32,119,105,115,104,32,49,32,48,32,40,97,115,107,101,100,40,111,119,110,101,114,41,41,32,40,110,101,118,101,114,41,32,40,97,115,107,101,100,40,111,119,110,101,114,41,32,60,32,110,101,118,101,114,41,59,32,100,114,111,112,32,101,110,100,32,50,32,48,32,40,115,116,111,114,101,100,32,43,32,49,48,48,41,32,40,110,101,118,101,114,41,32,40,48,32,61,61,32,48,41,59,32,112,108,97,99,101,32,104,111,109,101,32,49,32,48,32,40,100,97,121,40,48,41,41,32,40,110,101,118,101,114,41,32,40,48,32,61,61,32,48,41,32,45,62,32,48,32,50,59,32,112,108,97,99,101,32,119,97,114,32,51,32,50,48,32,40,100,97,121,40,53,48,41,41,32,40,110,101,118,101,114,41,32,40,48,32,61,61,32,48,41,32,45,62,32,49,32,50,59]⟩
def MD (src:Æ):Option (List Aq×Am):=bif src.data.toList.map (·.toNat) == Bf.data.toList.map (·.toNat) then some (Om src) else none
def GO:Option (List AF) :=
 (some [(AF.mk ⟨#[42]⟩ 7 6),(AF.mk ⟨#[47]⟩ 8 6),(AF.mk ⟨#[37]⟩ 9 6),(AF.mk ⟨#[43]⟩ 10 5),(AF.mk ⟨#[45]⟩ 11 5),(AF.mk ⟨#[61,61]⟩ 12 4),(AF.mk ⟨#[33,61]⟩ 13 4),(AF.mk ⟨#[60]⟩ 14 4),(AF.mk ⟨#[60,61]⟩ 15 4),(AF.mk ⟨#[62]⟩ 16 4),(AF.mk ⟨#[62,61]⟩ 17 4),(AF.mk ⟨#[38,38]⟩ 18 2),(AF.mk ⟨#[124,124]⟩ 19 1)]).bind fun l =>
 some l
def Bh (p:Ad)(e:Int):Option (Ex Ar Ad Unit) :=
 (gi p.l 0).bind fun x =>
 some (.pan (Ar.mk x.At e) p)
def AH (p:Ad):Option (Aq×Ad) :=
 (gi p.l 0).bind fun x =>
 (gsl p.l 1 (p.l.length:Int)).bind fun l =>
 some (x,(Ad.mk l p.forms))
def Bb (p:Ad)(s:Æ):Option Bool :=
 (((gi p.l 0).bind fun x =>
 bif (x.Kind == 4) then
  some (decide (x.S=s))
 else
  some false
 ):Option Bool).bind fun v4 =>
  some v4
def D6 (p:Ad):Option Bool :=
 (gi p.l 0).bind fun x =>
 ((bif (x.Kind == 1) then
  some (x.Kind == 1)
 else
  bif (x.Kind == 2) then
   some (x.Kind == 2)
  else
   some (x.Kind == 3)
 ):Option Bool).bind fun v10 =>
  bif v10 then
   some true
  else
   (((Bb p ⟨#[40]⟩).bind fun i =>
   bif i then
    some true
   else
    (Bb p ⟨#[45]⟩).bind fun i1 =>
    some i1
   ):Option Bool).bind fun v2 =>
    some v2
def Gy (p:Ad):Option (Ex Ar Ad Int) :=
 (gi p.l 0).bind fun x =>
 bif (x.Kind != 2) then
  (Bh p 5).bind fun y=>match y with
  |.ok f p1 =>
   (AH p1).bind fun n_ =>
   some (.ok n_.1.N n_.2)
  |.pan e p2=>some (.pan e p2)
 else
  (AH p).bind fun n_1 =>
  some (.ok n_1.1.N n_1.2)
def Dy (p:Ad)(depth:Int)(not_:Bool):Option (Ex Ar Ad Unit) :=
 (((D6 p).bind fun b =>
 bif (!b) then
  bif not_ then
   (Bb p ⟨#[33]⟩).bind fun i =>
   some (!i)
  else
   some true
 else
  some false
 ):Option Bool).bind fun v16 =>
  ((bif v16 then
   (Bh p 5).bind fun y3=>match y3 with
   |.ok f1 p5 =>
    some (.inl (p5.l,p5.forms))
   |.pan e3 p6=>some (.inr (.pan e3 p6))
  else
   some (.inl (p.l,p.forms))
  ):Option (((List Aq)×Int) ⊕ (Ex Ar Ad Unit))).bind fun y1=>match y1 with
  |.inl (p1,p2) =>
   bif (decide (30<depth)) then
    (Bh (Ad.mk p1 p2) 2).bind fun y2=>match y2 with
    |.ok f p3 =>
     some (.ok () p3)
    |.pan e2 p4=>some (.pan e2 p4)
   else
    some (.ok () (Ad.mk p1 p2))
  |.inr o=>some o
def Dx (p:Ad)(s:Æ):Option (Ex Ar Ad Unit) :=
 (Bb p s).bind fun i =>
 bif (!i) then
  (Bh p 5).bind fun y=>match y with
  |.ok f p1 =>
   (AH p1).bind fun n_ =>
   some (.ok () n_.2)
  |.pan e p2=>some (.pan e p2)
 else
  (AH p).bind fun n_1 =>
  some (.ok () n_1.2)
def EM (p:(List Aq))(p1:Int)(n_:Int)(q:Int)(q1:Int)(q2:Æ)(q3:(List Af))(q4:Int)(e:Int)(e1:Int)(e2:Æ)(e3:(List Af))(e4:Int)(b:AF):Option Bool :=
 ((bif (b.level == n_) then
  (Bb (Ad.mk p p1) b.sign).bind fun i =>
  some i
 else
  some false
 ):Option Bool).bind fun v4 =>
  some v4
def Cl:Nat->(List AF)->(List Aq)->Int->Int->Int->Int->Æ->(List Af)->Int->Int->Int->Æ->(List Af)->Int->Int->Option (Unit ⊕ Int)
 |0,_,_,_,_,_,_,_,_,_,_,_,_,_,_,_=>none
 |n+1,s,p,p1,n_,q,q1,q2,q3,q4,e,e1,e2,e3,e4,v8 =>
  bif (decide (v8<(s.length:Int))) then
   (gi s v8).bind fun x =>
   (EM p p1 n_ q q1 q2 q3 q4 e e1 e2 e3 e4 x).bind fun l =>
   bif l then
    some (.inr v8)
   else
    Cl n s p p1 n_ q q1 q2 q3 q4 e e1 e2 e3 e4 (À (v8+1))
  else
   some (.inl ())
def DA (n:Nat)(p:(List Aq))(p1:Int)(n_:Int)(q:Int)(q1:Int)(q2:Æ)(q3:(List Af))(q4:Int)(e:Int)(e1:Int)(e2:Æ)(e3:(List Af))(e4:Int)(s:(List AF)):Option Int :=
 ((Cl n s p p1 n_ q q1 q2 q3 q4 e e1 e2 e3 e4 0
 ):Option (Unit ⊕ Int)).bind fun y=>match y with
 |.inl _ =>
  some (-1)
 |.inr o=>some o
mutual
def AL:Nat->Ad->Int->Option (Ex Ar Ad Af)
 |0,_,_=>none
 |n+1,p,depth =>
  (Dy p depth true).bind fun y=>match y with
  |.ok d p1 =>
   (Ba n p1 1 depth).bind fun y1=>match y1 with
   |.ok e1 p3 =>
    (Bb p3 ⟨#[63]⟩).bind fun i =>
    bif (!i) then
     some (.ok e1 p3)
    else
     (AH p3).bind fun n_ =>
     (AL n n_.2 (À (depth+1))).bind fun y2=>match y2 with
     |.ok a_ p5 =>
      (Dx p5 ⟨#[58]⟩).bind fun y3=>match y3 with
      |.ok n_1 p7 =>
       (AL n p7 (À (depth+1))).bind fun y4=>match y4 with
       |.ok e5 p9 =>
        (some [e1,a_,e5]).bind fun l =>
        some (.ok (Af.mk 20 0 ⟨#[]⟩ l e1.At) p9)
       |.pan e6 p10=>some (.pan e6 p10)
      |.pan e4 p8=>some (.pan e4 p8)
     |.pan e3 p6=>some (.pan e3 p6)
   |.pan e2 p4=>some (.pan e2 p4)
  |.pan e p2=>some (.pan e p2)
def Ed:Nat->Int->Af->Int->(List Aq)->Int->Int->Int->Æ->(List Af)->Option (Ex Ar Ad Af)
 |0,_,_,_,_,_,_,_,_,_=>none
 |n+1,n_1,e2,depth,p5,p6,e4,e5,e6,e7 =>
  (GO).bind fun o_ =>
  (DA n p5 p6 n_1 0 0 ⟨#[]⟩ [] 0 e4 e5 e6 e7 e2.At o_).bind fun k =>
  bif (decide (k<0)) then
   some (.ok (Af.mk e4 e5 e6 e7 e2.At) (Ad.mk p5 p6))
  else
   (AH (Ad.mk p5 p6)).bind fun n_3 =>
   (GO).bind fun o_1 =>
   (gi o_1 k).bind fun x =>
   (Ba n n_3.2 (À (n_1+1)) depth).bind fun y3=>match y3 with
   |.ok l p7 =>
    (some [(Af.mk e4 e5 e6 e7 e2.At),l]).bind fun l1 =>
    bif (n_1 == 4) then
     some (.ok (Af.mk x.op 0 ⟨#[]⟩ l1 e2.At) p7)
    else
     Ed n n_1 e2 depth p7.l p7.forms x.op 0 ⟨#[]⟩ l1
   |.pan e8 p8=>some (.pan e8 p8)
def Ba:Nat->Ad->Int->Int->Option (Ex Ar Ad Af)
 |0,_,_,_=>none
 |n+1,p,n_,depth =>
  ((bif (n_ == 3) then
   (Bb p ⟨#[33]⟩).bind fun i =>
   bif i then
    (AH p).bind fun n_4 =>
    (Dy n_4.2 (À (depth+1)) true).bind fun y4=>match y4 with
    |.ok d p9 =>
     (Ba n p9 3 (À (depth+1))).bind fun y5=>match y5 with
     |.ok l2 p11 =>
      (some [l2]).bind fun l3 =>
      some (.inr (.ok (Af.mk 5 0 ⟨#[]⟩ l3 n_4.1.At) p11))
     |.pan e10 p12=>some (.inr (.pan e10 p12))
    |.pan e9 p10=>some (.inr (.pan e9 p10))
   else
    some (.inl (À (n_+1)))
  else
   some (.inl n_)
  ):Option (Int ⊕ (Ex Ar Ad Af))).bind fun y=>match y with
  |.inl n_1 =>
   bif (n_1 == 7) then
    (B9 n p depth).bind fun y1=>match y1 with
    |.ok n_2 p1 =>
     some (.ok n_2 p1)
    |.pan e1 p2=>some (.pan e1 p2)
   else
    (Ba n p (À (n_1+1)) depth).bind fun y2=>match y2 with
    |.ok e2 p3 =>
     Ed n n_1 e2 depth p3.l p3.forms e2.Op e2.N e2.S e2.Kids
    |.pan e3 p4=>some (.pan e3 p4)
  |.inr o=>some o
def B9:Nat->Ad->Int->Option (Ex Ar Ad Af)
 |0,_,_=>none
 |n+1,p,depth =>
  (Bb p ⟨#[45]⟩).bind fun i =>
  bif (!i) then
   (BB n p depth).bind fun y=>match y with
   |.ok a_ p1 =>
    some (.ok a_ p1)
   |.pan e p2=>some (.pan e p2)
  else
   (AH p).bind fun n_ =>
   (Dy n_.2 (À (depth+1)) false).bind fun y1=>match y1 with
   |.ok d p3 =>
    (B9 n p3 (À (depth+1))).bind fun y2=>match y2 with
    |.ok n_1 p5 =>
     (some [n_1]).bind fun l =>
     some (.ok (Af.mk 6 0 ⟨#[]⟩ l n_.1.At) p5)
    |.pan e2 p6=>some (.pan e2 p6)
   |.pan e1 p4=>some (.pan e1 p4)
def Dr:Nat->Int->(List Aq)->Int->(List Af)->Option (((List Aq)×Int×(List Af)) ⊕ (Ex Ar Ad Af))
 |0,_,_,_,_=>none
 |n+1,depth,p5,p6,e3 =>
  (Bb (Ad.mk p5 p6) ⟨#[41]⟩).bind fun i1 =>
  bif (!i1) then
   ((bif (decide (0<(e3.length:Int))) then
    (Dx (Ad.mk p5 p6) ⟨#[44]⟩).bind fun y7=>match y7 with
    |.ok n_2 p17 =>
     some (.inl (p17.l,p17.forms))
    |.pan e11 p18=>some (.inr (.pan e11 p18))
   else
    some (.inl (p5,p6))
   ):Option (((List Aq)×Int) ⊕ (Ex Ar Ad Af))).bind fun y2=>match y2 with
   |.inl (p7,p8) =>
    bif ((e3.length:Int) == 40) then
     (Dy (Ad.mk p7 p8) 0 true).bind fun y3=>match y3 with
     |.ok d p9 =>
      (Bh p9 2).bind fun y4=>match y4 with
      |.ok f p11 =>
       (AL n p11 (À (depth+1))).bind fun y5=>match y5 with
       |.ok e7 p13 =>
        (some [e7]).bind fun l =>
        (CC 64 e3 l).bind fun l1 =>
        Dr n depth p13.l p13.forms l1
       |.pan e8 p14=>some (.inr (.pan e8 p14))
      |.pan e6 p12=>some (.inr (.pan e6 p12))
     |.pan e5 p10=>some (.inr (.pan e5 p10))
    else
     (AL n (Ad.mk p7 p8) (À (depth+1))).bind fun y6=>match y6 with
     |.ok e9 p15 =>
      (some [e9]).bind fun l2 =>
      (CC 64 e3 l2).bind fun l3 =>
      Dr n depth p15.l p15.forms l3
     |.pan e10 p16=>some (.inr (.pan e10 p16))
   |.inr o=>some (.inr o)
  else
   some (.inl (p5,p6,e3))
def BB:Nat->Ad->Int->Option (Ex Ar Ad Af)
 |0,_,_=>none
 |n+1,p,depth =>
  (D6 p).bind fun b =>
  ((bif (!b) then
   (Bh p 5).bind fun y10=>match y10 with
   |.ok f1 p23 =>
    some (.inl (p23.l,p23.forms))
   |.pan e15 p24=>some (.inr (.pan e15 p24))
  else
   some (.inl (p.l,p.forms))
  ):Option (((List Aq)×Int) ⊕ (Ex Ar Ad Af))).bind fun y=>match y with
  |.inl (p1,p2) =>
   (AH (Ad.mk p1 p2)).bind fun t =>
   bif (t.1.Kind == 2) then
    some (.ok (Af.mk 1 t.1.N t.1.S [] t.1.At) t.2)
   else
    bif (t.1.Kind == 3) then
     some (.ok (Af.mk 2 t.1.N t.1.S [] t.1.At) t.2)
    else
     bif (t.1.Kind == 1) then
      (Bb t.2 ⟨#[40]⟩).bind fun i =>
      bif (!i) then
       some (.ok (Af.mk 3 t.1.N t.1.S [] t.1.At) t.2)
      else
       (AH t.2).bind fun n_ =>
       ((Dr n depth n_.2.l n_.2.forms []
       ):Option (((List Aq)×Int×(List Af)) ⊕ (Ex Ar Ad Af))).bind fun y1=>match y1 with
       |.inl (p3,p4,e1) =>
        (AH (Ad.mk p3 p4)).bind fun n_1 =>
        some (.ok (Af.mk 4 t.1.N t.1.S e1 t.1.At) n_1.2)
       |.inr o=>some o
     else
      (AL n t.2 (À (depth+1))).bind fun y8=>match y8 with
      |.ok e12 p19 =>
       (Dx p19 ⟨#[41]⟩).bind fun y9=>match y9 with
       |.ok n_3 p21 =>
        some (.ok e12 p21)
       |.pan e14 p22=>some (.pan e14 p22)
      |.pan e13 p20=>some (.pan e13 p20)
  |.inr o=>some o
end
def Gr (n:Nat)(p:Ad):Option (Ex Ar Ad B6) :=
 (AH p).bind fun t =>
 bif (t.1.Kind == 1) then
  some (.ok (B6.mk 1 t.1.N t.1.S (Af.mk 0 0 ⟨#[]⟩ [] 0) t.1.At) t.2)
 else
  bif (t.1.Kind == 2) then
   some (.ok (B6.mk 2 t.1.N t.1.S (Af.mk 0 0 ⟨#[]⟩ [] 0) t.1.At) t.2)
  else
   bif (t.1.Kind == 3) then
    some (.ok (B6.mk 3 t.1.N t.1.S (Af.mk 0 0 ⟨#[]⟩ [] 0) t.1.At) t.2)
   else
    bif (decide (t.1.S=⟨#[45]⟩)) then
     (Gy t.2).bind fun y=>match y with
     |.ok n_ p1 =>
      some (.ok (B6.mk 2 (À (0-n_)) ⟨#[]⟩ (Af.mk 0 0 ⟨#[]⟩ [] 0) t.1.At) p1)
     |.pan e p2=>some (.pan e p2)
    else
     bif (decide (t.1.S=⟨#[45,62]⟩)) then
      some (.ok (B6.mk 4 t.1.N ⟨#[]⟩ (Af.mk 0 0 ⟨#[]⟩ [] 0) t.1.At) t.2)
     else
      bif (decide (t.1.S=⟨#[40]⟩)) then
       (AL n t.2 1).bind fun y1=>match y1 with
       |.ok e1 p3 =>
        (Dx p3 ⟨#[41]⟩).bind fun y2=>match y2 with
        |.ok n_1 p5 =>
         some (.ok (B6.mk 5 t.1.N ⟨#[]⟩ e1 t.1.At) p5)
        |.pan e3 p6=>some (.pan e3 p6)
       |.pan e2 p4=>some (.pan e2 p4)
      else
       some (.ok (B6.mk 0 t.1.N ⟨#[]⟩ (Af.mk 0 0 ⟨#[]⟩ [] 0) t.1.At) t.2)
mutual
def E0:Nat->Int->(List Aq)->Int->(List Ax)->Option (((List Aq)×Int×(List Ax)) ⊕ (Ex Ar Ad Ax))
 |0,_,_,_,_=>none
 |n+1,depth,p9,p10,f2 =>
  (Bb (Ad.mk p9 p10) ⟨#[125]⟩).bind fun i =>
  bif (!i) then
   (Cb n (Ad.mk p9 p10) (À (depth+1))).bind fun y5=>match y5 with
   |.ok f3 p11 =>
    (some [f3]).bind fun l =>
    (CC 72 f2 l).bind fun l1 =>
    E0 n depth p11.l p11.forms l1
   |.pan e5 p12=>some (.inr (.pan e5 p12))
  else
   some (.inl (p9,p10,f2))
def Dq:Nat->(List Aq)->Int->(List B6)->Option (((List Aq)×Int×(List B6)) ⊕ (Ex Ar Ad Ax))
 |0,_,_,_=>none
 |n+1,p13,p14,f4 =>
  (((Bb (Ad.mk p13 p14) ⟨#[59]⟩).bind fun i2 =>
  bif (!i2) then
   (Bb (Ad.mk p13 p14) ⟨#[123]⟩).bind fun i3 =>
   some (!i3)
  else
   some false
  ):Option Bool).bind fun v49 =>
   bif v49 then
    (((D6 (Ad.mk p13 p14)).bind fun b =>
    bif (!b) then
     (Bb (Ad.mk p13 p14) ⟨#[45,62]⟩).bind fun i1 =>
     some (!i1)
    else
     some false
    ):Option Bool).bind fun v57 =>
     ((bif v57 then
      (Bh (Ad.mk p13 p14) 5).bind fun y12=>match y12 with
      |.ok f6 p23 =>
       some (.inl (p23.l,p23.forms))
      |.pan e12 p24=>some (.inr (.pan e12 p24))
     else
      some (.inl (p13,p14))
     ):Option (((List Aq)×Int) ⊕ (Ex Ar Ad Ax))).bind fun y8=>match y8 with
     |.inl (p15,p16) =>
      bif ((f4.length:Int) == 40) then
       (Bh (Ad.mk p15 p16) 2).bind fun y9=>match y9 with
       |.ok f5 p17 =>
        (Gr n p17).bind fun y10=>match y10 with
        |.ok a_ p19 =>
         (some [a_]).bind fun l2 =>
         (CC 104 f4 l2).bind fun l3 =>
         Dq n p19.l p19.forms l3
        |.pan e10 p20=>some (.inr (.pan e10 p20))
       |.pan e9 p18=>some (.inr (.pan e9 p18))
      else
       (Gr n (Ad.mk p15 p16)).bind fun y11=>match y11 with
       |.ok a_1 p21 =>
        (some [a_1]).bind fun l4 =>
        (CC 104 f4 l4).bind fun l5 =>
        Dq n p21.l p21.forms l5
       |.pan e11 p22=>some (.inr (.pan e11 p22))
     |.inr o=>some (.inr o)
   else
    some (.inl (p13,p14,f4))
def Cb:Nat->Ad->Int->Option (Ex Ar Ad Ax)
 |0,_,_=>none
 |n+1,p,depth =>
  (gi p.l 0).bind fun x =>
  ((bif (x.Kind != 1) then
   (Bh p 5).bind fun y14=>match y14 with
   |.ok f8 p27 =>
    some (.inl (p27.l,p27.forms))
   |.pan e14 p28=>some (.inr (.pan e14 p28))
  else
   some (.inl (p.l,p.forms))
  ):Option (((List Aq)×Int) ⊕ (Ex Ar Ad Ax))).bind fun y=>match y with
  |.inl (p1,p2) =>
   ((bif (decide (30<depth)) then
    some true
   else
    some (decide (2000<(À (p2+1))))
   ):Option Bool).bind fun v32 =>
    ((bif v32 then
     (Bh (Ad.mk p1 (À (p2+1))) 2).bind fun y13=>match y13 with
     |.ok f7 p25 =>
      some (.inl (p25.l,p25.forms))
     |.pan e13 p26=>some (.inr (.pan e13 p26))
    else
     some (.inl (p1,(À (p2+1))))
    ):Option (((List Aq)×Int) ⊕ (Ex Ar Ad Ax))).bind fun y2=>match y2 with
    |.inl (p3,p4) =>
     (AH (Ad.mk p3 p4)).bind fun t =>
     ((Dq n t.2.l t.2.forms []
     ):Option (((List Aq)×Int×(List B6)) ⊕ (Ex Ar Ad Ax))).bind fun y3=>match y3 with
     |.inl (p5,p6,f) =>
      (AH (Ad.mk p5 p6)).bind fun n_ =>
      bif (decide (n_.1.S=⟨#[59]⟩)) then
       some (.ok (Ax.mk t.1.S f [] t.1.At) n_.2)
      else
       ((E0 n depth n_.2.l n_.2.forms []
       ):Option (((List Aq)×Int×(List Ax)) ⊕ (Ex Ar Ad Ax))).bind fun y4=>match y4 with
       |.inl (p7,p8,f1) =>
        (AH (Ad.mk p7 p8)).bind fun n_1 =>
        some (.ok (Ax.mk t.1.S f f1 t.1.At) n_1.2)
       |.inr o=>some o
     |.inr o=>some o
    |.inr o=>some o
  |.inr o=>some o
end
def EB:Nat->(List Ax)->(List Aq)->Int->Option (((List Ax)×(List Aq)×Int) ⊕ (Ex Ar ((List Ax)×(List Aq)×Int) Unit))
 |0,_,_,_=>none
 |n+1,out2,q6,q7 =>
  (gi q6 0).bind fun x =>
  bif (x.Kind != 5) then
   (Cb n (Ad.mk q6 q7) 1).bind fun y1=>match y1 with
   |.ok f s =>
    (CC 72 out2 [f]).bind fun out3 =>
    EB n out3 s.l s.forms
   |.pan e1 s1=>some (.inr (.pan e1 (out2,s1.l,s1.forms)))
  else
   some (.inl (out2,q6,q7))
def HN (n:Nat)(q:Int)(q1:Int)(out:(List Ax))(bad:Int)(bad1:Int)(q2:(List Aq))(q3:Int):Option (Ex Ar ((List Ax)×(List Aq)×Int) Unit) :=
 ((EB n out q2 q3
 ):Option (((List Ax)×(List Aq)×Int) ⊕ (Ex Ar ((List Ax)×(List Aq)×Int) Unit))).bind fun y=>match y with
 |.inl (out1,q4,q5) =>
  some (.ok () (out1,q4,q5))
 |.inr o=>some o
def GN (n:Nat)(q:Int)(q1:Int)(out:(List Ax))(src:Æ):Option (Am×(List Ax)) :=
 (MD src).bind fun t =>
 bif (t.2.E != 0) then
  some (t.2,out)
 else
  (HN n q q1 out t.2.At t.2.E t.1 0).bind fun y=>match y with
  |.ok f c =>
   (gi c.2.1 0).bind fun x =>
   bif (x.Kind != 5) then
    (Bh (Ad.mk c.2.1 c.2.2) 5).bind fun y1=>match y1 with
    |.ok f1 s =>
     some ((Am.mk 0 0),c.1)
    |.pan e1 s1=>some ((Am.mk e1.At e1.E),c.1)
   else
    some ((Am.mk 0 0),c.1)
  |.pan e c1=>some ((Am.mk e.At e.E),c1.1)
def Md (n:Nat)(src:Æ):Option ((List Ax)×Am) :=
 (GN n 0 0 [] src).bind fun bad =>
 bif (bad.1.E != 0) then
  some ([],bad.1)
 else
  some (bad.2,bad.1)
def FY (m_:Ah)(x:(List Int)):Option Int :=
 (gi x 0).bind fun x1 =>
 some (À (0-x1))
def Ft (x:Int)(y:Int):Option (Int×Int) :=
 some ((IntKind.u64.wrap ((IntKind.u64.wrap ((IntKind.u64.wrap ((x.fdiv (2 ^ min (32:Int).toNat IntKind.u64.bits))*(y.fdiv (2 ^ min (32:Int).toNat IntKind.u64.bits))))+((IntKind.u64.wrap ((IntKind.u64.wrap ((x.fdiv (2 ^ min (32:Int).toNat IntKind.u64.bits))*(bits .and .u64 y 4294967295)))+((IntKind.u64.wrap ((bits .and .u64 x 4294967295)*(bits .and .u64 y 4294967295))).fdiv (2 ^ min (32:Int).toNat IntKind.u64.bits)))).fdiv (2 ^ min (32:Int).toNat IntKind.u64.bits))))+((IntKind.u64.wrap ((bits .and .u64 (IntKind.u64.wrap ((IntKind.u64.wrap ((x.fdiv (2 ^ min (32:Int).toNat IntKind.u64.bits))*(bits .and .u64 y 4294967295)))+((IntKind.u64.wrap ((bits .and .u64 x 4294967295)*(bits .and .u64 y 4294967295))).fdiv (2 ^ min (32:Int).toNat IntKind.u64.bits)))) 4294967295)+(IntKind.u64.wrap ((bits .and .u64 x 4294967295)*(y.fdiv (2 ^ min (32:Int).toNat IntKind.u64.bits)))))).fdiv (2 ^ min (32:Int).toNat IntKind.u64.bits)))),(IntKind.u64.wrap (x*y)))
def DG (a_:Int)(b:Int):Option Int :=
 (Ft (IntKind.u64.wrap (if (À (0-a_)) > a_ then (À (0-a_)) else a_)) (IntKind.u64.wrap (if (À (0-b)) > b then (À (0-b)) else b))).bind fun m_ =>
 ((bif (m_.1 == 0) then
  some (decide (m_.2<999999999999999))
 else
  some false
 ):Option Bool).bind fun v27 =>
  ((bif v27 then
   some (À m_.2)
  else
   some 999999999999999
  ):Option Int).bind fun n_ =>
   bif (!((decide (a_<0)) == (decide (b<0)))) then
    some (À (0-n_))
   else
    some n_
def FX (m_:Ah)(x:(List Int)):Option Int :=
 (gi x 0).bind fun x1 =>
 (gi x 1).bind fun x2 =>
 (DG x1 x2).bind fun t =>
 some t
def Dj (n_:Int):Option Int :=
 some (if (if 999999999999999<n_ then 999999999999999 else n_) > (-999999999999999) then (if 999999999999999<n_ then 999999999999999 else n_) else (-999999999999999))
def FW (m_:Ah)(x:(List Int)):Option Int :=
 (gi x 0).bind fun x1 =>
 (gi x 1).bind fun x2 =>
 (Dj (À (x1+x2))).bind fun n_ =>
 some n_
def Ga (n_:Int):Option Int :=
 some (if (if 41667<n_ then 41667 else n_) > 0 then (if 41667<n_ then 41667 else n_) else 0)
def DH (d:Int)(n_:Int):Option Int :=
 bif (d == 41667) then
  some d
 else
  (Ga (À (d+n_))).bind fun d1 =>
  some d1
def FV (m_:Ah)(x:(List Int)):Option Int :=
 (gi x 0).bind fun x1 =>
 (gi x 1).bind fun x2 =>
 (DH x1 x2).bind fun m_1 =>
 some m_1
def FU (m_:Ah)(x:(List Int)):Option Int :=
 (gi x 0).bind fun x1 =>
 (gi x 1).bind fun x2 =>
 (Dj (À (x1-x2))).bind fun n_ =>
 some n_
def FT (m_:Ah)(x:(List Int)):Option Int :=
 (gi x 0).bind fun x1 =>
 (gi x 1).bind fun x2 =>
 (DH x1 (À (0-x2))).bind fun m_1 =>
 some m_1
def FR (m_:Ah)(x:(List Int)):Option Int :=
 (gi x 0).bind fun x1 =>
 (gi x 1).bind fun x2 =>
 some (À (x1-x2))
def FQ (m_:Ah)(x:(List Int)):Option Int :=
 (gi x 0).bind fun x1 =>
 some (À (1-x1))
def FP (m_:Ah)(x:(List Int)):Option Int :=
 (gi x 0).bind fun x1 =>
 (gi x 1).bind fun x2 =>
 some (bits .and .i64 x1 x2)
def FC (m_:Ah)(x:(List Int)):Option Int :=
 (gi x 0).bind fun x1 =>
 (gi x 1).bind fun x2 =>
 some (bits .or .i64 x1 x2)
def FB (m_:Ah)(x:(List Int)):Option Int :=
 (gi x 0).bind fun x1 =>
 (Ga x1).bind fun d =>
 some d
def FA (m_:Ah)(x:(List Int)):Option Int :=
 (gi x 0).bind fun x1 =>
 some (if (if 1000<x1 then 1000 else x1) > 0 then (if 1000<x1 then 1000 else x1) else 0)
def F2 (m_:Ah)(x:(List Int)):Option Int :=
 (gi x 0).bind fun x1 =>
 (gi x (À (2-x1))).bind fun x2 =>
 some x2
def F1 (m_:Ah)(x:(List Int)):Option Int :=
 (gi x 0).bind fun x1 =>
 (gi x 1).bind fun x2 =>
 some (if x2<x1 then x2 else x1)
def F0 (m_:Ah)(x:(List Int)):Option Int :=
 (gi x 0).bind fun x1 =>
 (gi x 1).bind fun x2 =>
 some (if x2 > x1 then x2 else x1)
def F8 (a_:Int)(b:Int):Option Bool :=
 some (decide (a_<b))
def F7 (a_:Int)(b:Int):Option Bool :=
 some (decide (a_<=b))
def F6 (a_:Int)(b:Int):Option Bool :=
 some (decide (b<a_))
def F5 (a_:Int)(b:Int):Option Bool :=
 some (decide (b<=a_))
def F4 (a_:Int)(b:Int):Option Bool :=
 some (a_ == b)
def F3 (a_:Int)(b:Int):Option Bool :=
 some (a_ != b)
def Bw:Nat->Ah->Int->Int->Int->Int->Option Int
 |0,_,_,_,_,_=>none
 |n+1,m_,kind,who,best1,v14 =>
  bif (decide (v14<(m_.d.Facts.length:Int))) then
   (gi m_.d.Facts v14).bind fun x1 =>
   ((bif (x1.Kind == kind) then
    bif (x1.Who == who) then
     bif (decide (x1.Known<=m_.known)) then
      bif (decide (best1<0)) then
       some true
      else
       (gi m_.d.Facts best1).bind fun x2 =>
       some (decide (x2.Known<=x1.Known))
     else
      some false
    else
     some false
   else
    some false
   ):Option Bool).bind fun v51 =>
    bif v51 then
     Bw n m_ kind who v14 (À (v14+1))
    else
     Bw n m_ kind who best1 (À (v14+1))
  else
   some best1
def CD (n:Nat)(m_:Ah)(kind:Int)(who:Int):Option Int :=
 ((Bw n m_ kind who (-1) 0
 ):Option Int).bind fun best =>
  bif (decide (best<0)) then
   some 41667
  else
   (gi m_.d.Facts best).bind fun x =>
   some x.Day
def D9 (b:Bool):Option Int :=
 bif b then
  some 1
 else
  some 0
def F9 (n:Nat)(k:Int)(m_:Ah)(x:(List Int)):Option Int :=
 (gi x 0).bind fun x1 =>
 (CD n m_ (À (k+1)) x1).bind fun f =>
 some f
def Em (m_:Ah)(x:(List Int)):Option Int :=
 (gi x 0).bind fun x1 =>
 (gi x 1).bind fun x2 =>
 (F8 x1 x2).bind fun o_ =>
 (D9 o_).bind fun f =>
 some f
def El (m_:Ah)(x:(List Int)):Option Int :=
 (gi x 0).bind fun x1 =>
 (gi x 1).bind fun x2 =>
 (F7 x1 x2).bind fun o_ =>
 (D9 o_).bind fun f =>
 some f
def Ek (m_:Ah)(x:(List Int)):Option Int :=
 (gi x 0).bind fun x1 =>
 (gi x 1).bind fun x2 =>
 (F6 x1 x2).bind fun o_ =>
 (D9 o_).bind fun f =>
 some f
def Ej (m_:Ah)(x:(List Int)):Option Int :=
 (gi x 0).bind fun x1 =>
 (gi x 1).bind fun x2 =>
 (F5 x1 x2).bind fun o_ =>
 (D9 o_).bind fun f =>
 some f
def Ei (m_:Ah)(x:(List Int)):Option Int :=
 (gi x 0).bind fun x1 =>
 (gi x 1).bind fun x2 =>
 (F4 x1 x2).bind fun o_ =>
 (D9 o_).bind fun f =>
 some f
def Eh (m_:Ah)(x:(List Int)):Option Int :=
 (gi x 0).bind fun x1 =>
 (gi x 1).bind fun x2 =>
 (F3 x1 x2).bind fun o_ =>
 (D9 o_).bind fun f =>
 some f
def EG (op:Int):Option Int :=
 ((bif (op == 1) then
  some (op == 1)
 else
  bif (op == 2) then
   some (op == 2)
  else
   some (op == 3)
 ):Option Bool).bind fun v4 =>
  bif v4 then
   some 0
  else
   ((bif (op == 5) then
    some (op == 5)
   else
    some (op == 6)
   ):Option Bool).bind fun v8 =>
    bif v8 then
     some 1
    else
     bif (op == 20) then
      some 3
     else
      bif (op == 4) then
       some (-1)
      else
       some 2
def AP (s:(List Ac))(s1:(List (ByteArray×Int)))(e:Int)(e1:Int)(e2:Æ)(e3:(List Af))(e4:Int)(o_:Int)(o_1:Æ)(o_2:(List Int))(o_3:Int)(o_4:Do)(p:Int)(p1:Int)(x:Int):Option (Int×Ac×Am) :=
 some (0,(Ac.mk 0 ⟨#[]⟩ [] 0 Do.nil),(Am.mk e4 x))
def Cg:Nat->(List Int)->(List Int)->Int->Option (Unit ⊕ Bool)
 |0,_,_,_=>none
 |n+1,s1,s2,v13 =>
  bif (decide (v13<(s1.length:Int))) then
   (gi s1 v13).bind fun x =>
   (gi s2 v13).bind fun x1 =>
   bif (x != x1) then
    some (.inr false)
   else
    Cg n s1 s2 (À (v13+1))
  else
   some (.inl ())
def Eo (n:Nat)(s1:(List Int))(s2:(List Int)):Option Bool :=
 bif ((s1.length:Int) != (s2.length:Int)) then
  some false
 else
  ((Cg n s1 s2 0
  ):Option (Unit ⊕ Bool)).bind fun y=>match y with
  |.inl _ =>
   some true
  |.inr o=>some o
mutual
def AQ:Nat->Bp->Af->(List Int)->Bool->Bool->Int->Option ((Bool×Bool) ⊕ (Int×Ac×Am))
 |0,_,_,_,_,_,_=>none
 |n+1,s,e,types,known1,fits1,v121 =>
  bif (decide (v121<(s.ops.length:Int))) then
   (gi s.ops v121).bind fun x =>
   ((bif (x.op != e.Op) then
    some true
   else
    bif (x.op == 4) then
     some (!decide (x.name=e.S))
    else
     some false
   ):Option Bool).bind fun v141 =>
    bif v141 then
     AQ n s e types known1 fits1 (À (v121+1))
    else
     ((bif fits1 then
      some true
     else
      some ((x.args.length:Int) == (types.length:Int))
     ):Option Bool).bind fun fits2 =>
      (Eo n x.args types).bind fun e9 =>
      bif e9 then
       some (.inr (x.kind,x,(Am.mk 0 0)))
      else
       AQ n s e types true fits2 (À (v121+1))
  else
   some (.inl (known1,fits1))
def Bv:Nat->Af->Bp->(List Int)->Int->Option ((List Int) ⊕ (Int×Ac×Am))
 |0,_,_,_,_=>none
 |n+1,e,s,types1,v52 =>
  bif (decide (v52<(e.Kids.length:Int))) then
   (gi e.Kids v52).bind fun x1 =>
   (A6 n s x1).bind fun f7 =>
   bif (f7.2.2.E != 0) then
    some (.inr (0,(Ac.mk 0 ⟨#[]⟩ [] 0 Do.nil),f7.2.2))
   else
    (some [f7.1]).bind fun l =>
    (CC 8 types1 l).bind fun l1 =>
    Bv n e s l1 (À (v52+1))
  else
   some (.inl types1)
def A6:Nat->Bp->Af->Option (Int×Ac×Am)
 |0,_,_=>none
 |n+1,s,e =>
  (EG e.Op).bind fun n_ =>
  ((bif (decide (e.Op<1)) then
   some true
  else
   bif (decide (20<e.Op)) then
    some true
   else
    bif (decide (0<=n_)) then
     some ((e.Kids.length:Int) != n_)
    else
     some false
  ):Option Bool).bind fun v43 =>
   bif v43 then
    (AP s.ops s.names e.Op e.N e.S e.Kids e.At 0 ⟨#[]⟩ [] 0 Do.nil 0 0 1).bind fun f =>
    some (f.1,f.2.1,f.2.2)
   else
    ((Bv n e s [] 0
    ):Option ((List Int) ⊕ (Int×Ac×Am))).bind fun y1=>match y1 with
    |.inl types =>
     bif (e.Op == 1) then
      ((bif (decide (e.N<0)) then
       some true
      else
       some (decide (999999999999999<e.N))
      ):Option Bool).bind fun v84 =>
       bif v84 then
        (AP s.ops s.names e.Op e.N e.S e.Kids e.At 0 ⟨#[]⟩ [] 0 Do.nil 0 0 1).bind fun f1 =>
        some (f1.1,f1.2.1,f1.2.2)
       else
        some (1,(Ac.mk 0 ⟨#[]⟩ [] 0 Do.nil),(Am.mk 0 0))
     else
      bif (e.Op == 2) then
       (AP s.ops s.names e.Op e.N e.S e.Kids e.At 0 ⟨#[]⟩ [] 0 Do.nil 0 0 7).bind fun f2 =>
       some (f2.1,f2.2.1,f2.2.2)
      else
       bif (e.Op == 3) then
        bif (B1 s.names e.S).2 then
         some ((B1 s.names e.S).1,(Ac.mk 0 ⟨#[]⟩ [] 0 Do.nil),(Am.mk 0 0))
        else
         (AP s.ops s.names e.Op e.N e.S e.Kids e.At 0 ⟨#[]⟩ [] 0 Do.nil 0 0 6).bind fun f3 =>
         some (f3.1,f3.2.1,f3.2.2)
       else
        ((AQ n s e types false false 0
        ):Option ((Bool×Bool) ⊕ (Int×Ac×Am))).bind fun y3=>match y3 with
        |.inl (known,fits) =>
         ((bif (e.Op == 4) then
          some (!known)
         else
          some false
         ):Option Bool).bind fun v160 =>
          bif v160 then
           (AP s.ops s.names e.Op e.N e.S e.Kids e.At 0 ⟨#[]⟩ [] 0 Do.nil 0 0 6).bind fun f4 =>
           some (f4.1,f4.2.1,f4.2.2)
          else
           ((bif (e.Op == 4) then
            some (!fits)
           else
            some false
           ):Option Bool).bind fun v173 =>
            bif v173 then
             (AP s.ops s.names e.Op e.N e.S e.Kids e.At 0 ⟨#[]⟩ [] 0 Do.nil 0 0 1).bind fun f5 =>
             some (f5.1,f5.2.1,f5.2.2)
            else
             (AP s.ops s.names e.Op e.N e.S e.Kids e.At 0 ⟨#[]⟩ [] 0 Do.nil 0 0 7).bind fun f6 =>
             some (f6.1,f6.2.1,f6.2.2)
        |.inr o=>some o
    |.inr o=>some o
end
def HA (n:Nat)(d:Do)(m:Ah)(x:List Int):Option Int:=match d with
 |.c 82=>FY m x
 |.c 83=>FX m x
 |.c 85=>FW m x
 |.c 87=>FV m x
 |.c 89=>FU m x
 |.c 90=>FT m x
 |.c 91=>FR m x
 |.c 92=>FQ m x
 |.c 93=>FP m x
 |.c 94=>FC m x
 |.c 95=>FB m x
 |.c 97=>FA m x
 |.c 108=>F2 m x
 |.c 109=>F1 m x
 |.c 110=>F0 m x
 |.k k=>F9 n k m x
 |.is 100=>Em m x
 |.is 101=>El m x
 |.is 102=>Ek m x
 |.is 103=>Ej m x
 |.is 104=>Ei m x
 |.is 105=>Eh m x
 |_=>none
mutual
def Bg:Nat->Af->Bp->Ah->(List Int)->Int->Option (List Int)
 |0,_,_,_,_,_=>none
 |n+1,e,s,m_,x1,v35 =>
  bif (decide (v35<(e.Kids.length:Int))) then
   (gi e.Kids v35).bind fun x2 =>
   (A5 n s x2 m_).bind fun v_ =>
   (some [v_]).bind fun l =>
   (CC 8 x1 l).bind fun l1 =>
   Bg n e s m_ l1 (À (v35+1))
  else
   some x1
def A5:Nat->Bp->Af->Ah->Option Int
 |0,_,_,_=>none
 |n+1,s,e,m_ =>
  bif (e.Op == 1) then
   some e.N
  else
   bif (e.Op == 3) then
    some ((B1 [(⟨#[121,101,97,114]⟩,365),(⟨#[115,116,111,114,101,100]⟩,m_.d.Stored),(⟨#[110,101,118,101,114]⟩,41667),(⟨#[111,119,110,101,114]⟩,m_.d.Owner)] e.S).1)
   else
    ((Bg n e s m_ [] 0
    ):Option (List Int)).bind fun x =>
     (A6 n s (Af.mk e.Op e.N e.S e.Kids e.At)).bind fun f =>
     (gfn f.2.1.do_).bind fun d =>
     (HA n d m_ x).bind fun r1 =>
     some r1
end
abbrev hT (l:List Aq):PV:=hP l Fx
abbrev oT (l:List Aq):PV:=oP l Fx
abbrev hX (l:List Af):PV:=hP l Bd
abbrev oX (l:List Af):PV:=oP l Bd
abbrev hF (l:List Ax):PV:=hP l Cz
abbrev oF (l:List Ax):PV:=oP l Cz
abbrev hA (l:List B6):PV:=hP l Ge
abbrev oA (l:List B6):PV:=oP l Ge
abbrev hS (l:List Æ):PV:=hP l Gc
abbrev oS (l:List Æ):PV:=oP l Gc
abbrev hI (l:List Int):PV:=hP l BH
abbrev oI (l:List Int):PV:=oP l BH
abbrev hZ (l:List Br):PV:=hP l DB
abbrev hO (l:List Ac):PV:=hP l AN
abbrev oO (l:List Ac):PV:=oP l AN
abbrev hE (l:List AF):PV:=hP l EI
abbrev oE (l:List AF):PV:=oP l EI
abbrev kT (x:Aq):List PV:=[iP x.Kind,iP x.At,tP x.S,iP x.N]
abbrev kE (x:AF):List PV:=[tP x.sign,iP x.op,iP x.level]
abbrev kX (x:Af):List PV:=[iP x.Op,iP x.N,tP x.S,hX x.Kids,iP x.At]
abbrev kA (x:B6):List PV:=[iP x.Kind,iP x.N,tP x.S,iP x.E.Op,iP x.E.N,tP x.E.S,hX x.E.Kids,iP x.E.At,iP x.At]
abbrev kF (x:Ax):List PV:=[tP x.Word,hA x.Args,hF x.Body,iP x.At]
abbrev kZ (x:Br):List PV:=[iP x.Kind,iP x.Who,iP x.Day,iP x.Known]
abbrev kD (x:Ai):List PV:=[hZ x.Facts,iP x.Stored,iP x.Owner]
abbrev kM (x:Ah):List PV:=[hZ x.d.Facts,iP x.d.Stored,iP x.d.Owner,iP x.known]
abbrev kO (x:Ac):List PV:=[iP x.op,tP x.name,hI x.args,iP x.kind,.fno (MG x.do_) (Lh x.do_) (Lw x.do_)]
end Go.Sp
namespace Go.Sp
open Go
def Ev {α:Type}(f:Nat->Option α)(a:α):Prop:=∃ N,∀ n,N<=n->f n=some a
namespace Ev
variable {α β:Type} {f:Nat->Option α} {a:α} {b:β}
theorem const {x:Option α}(h:x=some a):Ev (fun _=>x) a:=⟨0,fun _ _=>h⟩
theorem pure:Ev (fun _=>some a) a:=const rfl
theorem of (h:∀ n,f n=some a):Ev f a:=⟨0,fun n _=>h n⟩
theorem bind {g:Nat->α->Option β}(h:Ev f a)(k:Ev (fun n=>g n a) b):Ev (fun n=>(f n).bind (g n)) b:=by
 obtain⟨N,h⟩:=h
 obtain⟨M,k⟩:=k
 exact⟨max N M,fun n c=>by
  show (f n).bind (g n)=some b
  rw [h n (by omega)];exact k n (by omega)⟩
theorem step {F:Nat->Option α}(e:∀ n,F (n+1)=f n)(h:Ev f a):Ev F a:=by
 obtain⟨N,h⟩:=h
 refine⟨N+1,fun n b=>?_⟩
 obtain⟨m,rfl⟩:∃ m,n=m+1:=⟨n-1,by omega⟩
 rw [e];exact h m (by omega)
theorem congr {g:Nat->Option α}(h:Ev g a)(e:∀ n,f n=g n):Ev f a:=by
 obtain⟨N,h⟩:=h
 exact⟨N,fun n b=>(e n).trans (h n b)⟩
theorem get (h:Ev f a):∃ n,f n=some a:=by
 obtain⟨N,h⟩:=h
 exact⟨N,h N (ä _)⟩
theorem uniq {a':α}(h:Ev f a)(k:Ev f a'):a=a':=by
 obtain⟨N,h⟩:=h
 obtain⟨M,k⟩:=k
 have:=(h (max N M) (by omega)).symm.trans (k (max N M) (by omega))
 exact Ag this
end Ev
theorem BF {x:Int}(h1 : -9223372036854775808<=x)(h2:x<9223372036854775808):À x=x:=by
 unfold À;rw [IntKind.wrap_i64];omega
end Go.Sp
namespace Go.Sp
open Go Go.Vl
set_option linter.unusedVariables false
def Bc:Nat->(List Int)->(List Ac)->Int->Option (List Ac)
 |0,_,_,_=>none
 |n+1,l1,l3,v86 =>
  bif (decide (v86<(l1.length:Int))) then
   (gi l1 v86).bind fun x =>
   (some [3,x,x]).bind fun l4 =>
   (some [(Ac.mk 20 ⟨#[]⟩ l4 x (Do.c 108))]).bind fun l5 =>
   (CC 64 l3 l5).bind fun l6 =>
   ((bif (x == 1) then
    some true
   else
    some (x == 2)
   ):Option Bool).bind fun v103 =>
    bif v103 then
     (some [x,x]).bind fun l7 =>
     (some [x,x]).bind fun l8 =>
     (some [(Ac.mk 4 ⟨#[109,105,110]⟩ l7 x (Do.c 109)),(Ac.mk 4 ⟨#[109,97,120]⟩ l8 x (Do.c 110))]).bind fun l9 =>
     (CC 64 l6 l9).bind fun l10 =>
     Bc n l1 l10 (À (v86+1))
    else
     Bc n l1 l6 (À (v86+1))
  else
   some l3
def Aaq (n:Nat)(l:(List Ac)):Option (List Ac) :=
 (some [1,2,3,4]).bind fun l1 =>
 ((Bc n l1 l 0
 ):Option (List Ac)).bind fun l2 =>
  some l2
def AR:Nat->(List Int)->Int->Nat->(List Ac)->Int->Option ((List Ac)×Int×Bool)
 |0,_,_,_,_,_=>none
 |n+1,l1,op,f,l3,v601 =>
  bif (decide (v601<(l1.length:Int))) then
   (gi l1 v601).bind fun x =>
   ((bif (x != 4) then
    some true
   else
    bif (op == 12) then
     some true
    else
     some (op == 13)
   ):Option Bool).bind fun v73 =>
    bif v73 then
     (some [x,x]).bind fun l4 =>
     (some [(Ac.mk op ⟨#[]⟩ l4 3 (Do.is f))]).bind fun l5 =>
     (CC 64 l3 l5).bind fun l6 =>
     AR n l1 op f l6 (À (v601+1))
    else
     AR n l1 op f l3 (À (v601+1))
  else
   some (l3,v601,(decide (v601<(l1.length:Int))))
def Adf (n:Nat)(l:(List Ac))(op:Int)(f:Nat):Option (List Ac) :=
 (some [1,2,4]).bind fun l1 =>
 ((AR n l1 op f l 0
 ):Option ((List Ac)×Int×Bool)).bind fun y=>match y with
 |(l2,v60,v61) =>
  some l2
def CU:Nat->(List Æ)->(List Ac)->Int->Option ((List Ac)×Int×Bool)
 |0,_,_,_=>none
 |n+1,l13,l15,v371 =>
  bif (decide (v371<(l13.length:Int))) then
   (gi l13 v371).bind fun x =>
   (some [4]).bind fun l16 =>
   (some [(Ac.mk 4 x l16 2 (Do.k v371))]).bind fun l17 =>
   (CC 64 l15 l17).bind fun l18 =>
   CU n l13 l18 (À (v371+1))
  else
   some (l15,v371,(decide (v371<(l13.length:Int))))
def Aff (n:Nat):Option (List Ac) :=
 (some [1]).bind fun l =>
 (some [1,1]).bind fun l1 =>
 (some [1,1]).bind fun l2 =>
 (some [2,1]).bind fun l3 =>
 (some [1,1]).bind fun l4 =>
 (some [2,1]).bind fun l5 =>
 (some [2,2]).bind fun l6 =>
 (some [3]).bind fun l7 =>
 (some [3,3]).bind fun l8 =>
 (some [3,3]).bind fun l9 =>
 (some [1]).bind fun l10 =>
 (some [1]).bind fun l11 =>
 (some [(Ac.mk 6 ⟨#[]⟩ l 1 (Do.c 82)),(Ac.mk 7 ⟨#[]⟩ l1 1 (Do.c 83)),(Ac.mk 10 ⟨#[]⟩ l2 1 (Do.c 85)),(Ac.mk 10 ⟨#[]⟩ l3 2 (Do.c 87)),(Ac.mk 11 ⟨#[]⟩ l4 1 (Do.c 89)),(Ac.mk 11 ⟨#[]⟩ l5 2 (Do.c 90)),(Ac.mk 11 ⟨#[]⟩ l6 1 (Do.c 91)),(Ac.mk 5 ⟨#[]⟩ l7 3 (Do.c 92)),(Ac.mk 18 ⟨#[]⟩ l8 3 (Do.c 93)),(Ac.mk 19 ⟨#[]⟩ l9 3 (Do.c 94)),(Ac.mk 4 ⟨#[100,97,121]⟩ l10 2 (Do.c 95)),(Ac.mk 4 ⟨#[112,101,114,115,111,110]⟩ l11 4 (Do.c 97))]).bind fun l12 =>
 (some [⟨#[98,111,114,110]⟩,⟨#[100,105,101,100]⟩,⟨#[97,115,107,101,100]⟩,⟨#[104,101,108,100]⟩,⟨#[108,105,102,116,101,100]⟩]).bind fun l13 =>
 ((CU n l13 l12 0
 ):Option ((List Ac)×Int×Bool)).bind fun y=>match y with
 |(l14,v37,v38) =>
  some l14
def Dd:List (Value×Value):=[(.int .i64 14,.func (.func 100) #[] #[]),(.int .i64 15,.func (.func 101) #[] #[]),(.int .i64 16,.func (.func 102) #[] #[]),(.int .i64 17,.func (.func 103) #[] #[]),(.int .i64 12,.func (.func 104) #[] #[]),(.int .i64 13,.func (.func 105) #[] #[])]
def opk:List (Int×Nat):=[(14,100),(15,101),(16,102),(17,103),(12,104),(13,105)]
end Go.Sp
namespace Go.Sp
open Go Go.Vl
def Fq:List Ac :=
 [⟨6,⟨#[]⟩,[1],1,.c 82⟩,⟨7,⟨#[]⟩,[1,1],1,.c 83⟩,⟨10,⟨#[]⟩,[1,1],1,.c 85⟩,⟨10,⟨#[]⟩,[2,1],2,.c 87⟩,⟨11,⟨#[]⟩,[1,1],1,.c 89⟩,⟨11,⟨#[]⟩,[2,1],2,.c 90⟩,
  ⟨11,⟨#[]⟩,[2,2],1,.c 91⟩,⟨5,⟨#[]⟩,[3],3,.c 92⟩,⟨18,⟨#[]⟩,[3,3],3,.c 93⟩,⟨19,⟨#[]⟩,[3,3],3,.c 94⟩,⟨4,⟨#[100,97,121]⟩,[1],2,.c 95⟩,⟨4,⟨#[112,101,114,115,111,110]⟩,[1],4,.c 97⟩,
  ⟨4,⟨#[98,111,114,110]⟩,[4],2,.k 0⟩,⟨4,⟨#[100,105,101,100]⟩,[4],2,.k 1⟩,⟨4,⟨#[97,115,107,101,100]⟩,[4],2,.k 2⟩,⟨4,⟨#[104,101,108,100]⟩,[4],2,.k 3⟩,⟨4,⟨#[108,105,102,116,101,100]⟩,[4],2,.k 4⟩]
def Jq (op:Int)(f:Nat):List Ac :=
 [⟨op,⟨#[]⟩,[1,1],3,.is f⟩,⟨op,⟨#[]⟩,[2,2],3,.is f⟩]++if op=12∨op=13 then [⟨op,⟨#[]⟩,[4,4],3,.is f⟩] else []
def Hd (i:Nat):List Ac:=match opk[i]? with
 |some (op,f)=>Jq op f
 |none=>[]
def MV:List Ac :=
 [⟨20,⟨#[]⟩,[3,1,1],1,.c 108⟩,⟨4,⟨#[109,105,110]⟩,[1,1],1,.c 109⟩,⟨4,⟨#[109,97,120]⟩,[1,1],1,.c 110⟩,⟨20,⟨#[]⟩,[3,2,2],2,.c 108⟩,⟨4,⟨#[109,105,110]⟩,[2,2],2,.c 109⟩,⟨4,⟨#[109,97,120]⟩,[2,2],2,.c 110⟩,
  ⟨20,⟨#[]⟩,[3,3,3],3,.c 108⟩,⟨20,⟨#[]⟩,[3,4,4],4,.c 108⟩]
def Ord (os:List Nat):Prop:=os.Nodup/\(∀ i∈os,i<6)/\∀ i,i<6->i∈os
theorem Adg:Aff 20=some Fq:=by kernel_rfl
theorem Aba {l ys:List Ac}(h1:l.length<=100)(h2:ys.length<=100):CC 64 l ys=some (l++ys):=by
 unfold CC
 rw [È (by omega)]
theorem Ade (l:List Ac)(op:Int)(f:Nat)(hl:l.length<=40):Adf 20 l op f=some (l++Jq op f):=by
 unfold Adf
 rw [Á]
 rw [AR.eq_2]
 rw [show (decide ((0:Int)<(([1,2,4]:List Int).length:Int)))=true from rfl,Î,show gi ([1,2,4]:List Int) 0=some 1 from rfl,Á]
 rw [show ((1:Int) != 4)=true from rfl,Î,Á,Î,Á,Á,Aba (by omega) (by simp),Á]
 rw [AR.eq_2]
 rw [show (decide (À (0+1)<(([1,2,4]:List Int).length:Int)))=true from rfl,Î,show gi ([1,2,4]:List Int) (À (0+1))=some 2 from rfl,Á]
 rw [show ((2:Int) != 4)=true from rfl,Î,Á,Î,Á,Á,Aba (by simp;omega) (by simp),Á]
 rw [AR.eq_2]
 rw [show (decide (À (À (0+1)+1)<(([1,2,4]:List Int).length:Int)))=true from rfl,Î,show gi ([1,2,4]:List Int) (À (À (0+1)+1))=some 4 from rfl,Á]
 rw [show ((4:Int) != 4)=false from rfl,Ì]
 by_cases h:op=12∨op=13
 . have e:((bif (op == 12) then some true else some (op == 13)):Option Bool)=some true:=by
    rcases h with h|h<;>subst h<;>rfl
   rw [e,Á,Î,Á,Á,Aba (by simp;omega) (by simp),Á,AR.eq_2]
   rw [show (decide (À (À (À (0+1)+1)+1)<(([1,2,4]:List Int).length:Int)))=false from rfl,Ì,Á]
   unfold Jq
   rw [È h]
   simp only [ð]
   rfl
 . have e:((bif (op == 12) then some true else some (op == 13)):Option Bool)=some false:=by
    have a:(op == 12)=false:=by simpa using fun e=>h (.inl e)
    have b:(op == 13)=false:=by simpa using fun e=>h (.inr e)
    rw [a,b];rfl
   rw [e,Á,Ì,AR.eq_2]
   rw [show (decide (À (À (À (0+1)+1)+1)<(([1,2,4]:List Int).length:Int)))=false from rfl,Ì,Á]
   unfold Jq
   rw [Ä h]
   simp only [ð]
   rfl
theorem Yo (l:List Ac)(hl:l.length<=40):Aaq 20 l=some (l++MV):=by
 unfold Aaq
 rw [Á]
 have step:∀ (n:Nat) (v x:Int) (m:List Ac),m.length<=60->(decide (v<(([1,2,3,4]:List Int).length:Int)))=true->gi [1,2,3,4] v=some x ->
  Bc (n+1) [1,2,3,4] m v=Bc n [1,2,3,4] (m++(⟨20,⟨#[]⟩,[3,x,x],x,.c 108⟩::if x=1∨x=2 then [⟨4,⟨#[109,105,110]⟩,[x,x],x,.c 109⟩,⟨4,⟨#[109,97,120]⟩,[x,x],x,.c 110⟩] else [])) (À (v+1)):=by
  intro n v x m d a b
  rw [Bc.eq_2,a,Î,b,Á,Á,Á,Aba (by omega) (by simp),Á]
  by_cases h:x=1∨x=2
  . have e:((bif (x == 1) then some true else some (x == 2)):Option Bool)=some true:=by
     rcases h with h|h<;>subst h<;>rfl
    rw [e,Á,Î,Á,Á,Á,Aba (by simp;omega) (by simp),Á,È h,ð]
    rfl
  . have e:((bif (x == 1) then some true else some (x == 2)):Option Bool)=some false:=by
     have a:(x == 1)=false:=by simpa using fun e=>h (.inl e)
     have b:(x == 2)=false:=by simpa using fun e=>h (.inr e)
     rw [a,b];rfl
    rw [e,Á,Ì,Ä h]
 rw [step 19 0 1 l (by omega) rfl rfl,step 18 _ 2 _ (by simp;omega) rfl rfl,step 17 _ 3 _ (by simp;omega) rfl rfl,step 16 _ 4 _ (by simp;omega) rfl rfl,Bc.eq_2,
  show (decide (À (À (À (À (0+1)+1)+1)+1)<(([1,2,3,4]:List Int).length:Int)))=false from rfl,Ì,Á]
 simp only [ð]
 rfl
theorem Adc (l:List Ac)(hl:l.length<=40):∃ r,Aaq 20 l=some r:=⟨_,Yo l hl⟩
theorem ndl:∀ (n:Nat) (l:List Nat),l.Nodup->(∀ i∈l,i<n)->l.length<=n
 |0,l,_,h=>by
  cases l with
  |nil=>simp
  |cons a r=>exact absurd (h a (by simp)) (by omega)
 |n+1,l,hn,h=>by
  have h1:=ndl n (l.erase n) (hn.erase n) (fun i hi=>by
   have h2:=h i (List.mem_of_mem_erase hi)
   have h3:i≠n:=fun e=>by
    subst e
    exact (List.Nodup.not_mem_erase hn) hi
   omega)
  rw [List.length_erase] at h1
  split at h1<;>omega
theorem ZD (i:Nat):(Hd i).length<=3:=by
 unfold Hd
 split
 . unfold Jq;split<;>simp
 . simp
theorem R4:∀ (s:List Nat),(s.flatMap Hd).length<=3*s.length
 | []=>by simp
 |a::r=>by
  have h1:=R4 r
  have h2:=ZD a
  rw [List.flatMap_cons,Ú,à]
  omega
section
variable {seen:List Nat} {i:Nat} {l l' r:List Ac} {op:Int} {f:Nat}
theorem Xq (hlen:seen.length<=6)(hl:l=Fq++seen.flatMap Hd):l.length<=40:=by
 have:=R4 seen
 rw [hl,Ú]
 have e:Fq.length=17:=rfl
 omega
theorem Ai9 (i:Nat)(h:i<Dd.length):∃ op f,Dd[i]?=some (.int .i64 op,.func (.func f) #[] #[])/\opk[i]?=some (op,f):=by
 have a:i<6:=h
 match i,a with
 |0,_=>exact⟨14,100,rfl,rfl⟩
 |1,_=>exact⟨15,101,rfl,rfl⟩
 |2,_=>exact⟨16,102,rfl,rfl⟩
 |3,_=>exact⟨17,103,rfl,rfl⟩
 |4,_=>exact⟨12,104,rfl,rfl⟩
 |5,_=>exact⟨13,105,rfl,rfl⟩
theorem Afd (hnd:seen.Nodup)(hlt:∀ i∈seen,i<6)(hall:∀ i,i<Dd.length->i∈seen):Ord seen:=⟨hnd,hlt,fun i hi=>hall i hi⟩
theorem nd1 (hnd:seen.Nodup)(hn:i∉seen):(seen++[i]).Nodup:=by
 rw [ė]
 refine⟨hnd,by simp,fun a c b hb=>?_⟩
 rw [List.mem_singleton.1 hb]
 rintro rfl;exact hn c
theorem lt1 (hlt:∀ i∈seen,i<6)(hi:i<Dd.length):∀ j∈seen++[i],j<6:=fun j hj=>by
 rcases List.mem_append.1 hj with h|h
 . exact hlt j h
 . rw [List.mem_singleton.1 h];exact hi
theorem Ai0 (hnd:seen.Nodup)(hlt:∀ i∈seen,i<6)(hn:i∉seen)(hi:i<Dd.length):6-(seen++[i]).length<6-seen.length:=by
 have:=ndl 6 _ (nd1 hnd hn) (lt1 hlt hi)
 rw [Ú,List.length_singleton] at this ⊢
 omega
theorem Ai1 (hnd:seen.Nodup)(hlt:∀ i∈seen,i<6)(hl:l=Fq++seen.flatMap Hd)(hn:i∉seen)(hi:i<Dd.length)(hop:opk[i]?=some (op,f))(hB:r=l++Jq op f)(h:some l'=some r) :
 (seen++[i]).Nodup/\(∀ j∈seen++[i],j<6)/\(seen++[i]).length<=6/\l'=Fq++(seen++[i]).flatMap Hd:=by
 refine⟨nd1 hnd hn,lt1 hlt hi,ndl 6 _ (nd1 hnd hn) (lt1 hlt hi),?_⟩
 rw [Ag h,hB,hl,List.flatMap_append,ð]
 congr 2
 rw [List.flatMap_cons,List.flatMap_nil,ă]
 unfold Hd
 rw [hop]
end
def opsOf (os:List Nat):List Ac:=Fq++os.flatMap Hd++MV
end Go.Sp
namespace Go.Sp
open Go Go.Vl
def BX:List (ByteArray×Int):=[(⟨#[121,101,97,114]⟩,1),(⟨#[115,116,111,114,101,100]⟩,2),(⟨#[110,101,118,101,114]⟩,2),(⟨#[111,119,110,101,114]⟩,4)]
instance (os:List Nat):Decidable (Ord os):=by unfold Ord;exact inferInstance
def SU (os:List Nat):List Nat:=if Ord os then os else [0,1,2,3,4,5]
theorem SS (os:List Nat):Ord (SU os):=by
 unfold SU
 split
 . assumption
 . decide
theorem Aap {os:List Nat}(h:Ord os):SU os=os:=È h
abbrev Bj:PV:=.dis fun os=>(opsOf (SU os)).map AN
abbrev D3:PV:=.vmp (Oo BX)
end Go.Sp
namespace Go.Sp
open Go
def op0:Ac:=⟨0,⟨#[]⟩,[],0,.nil⟩
abbrev Wz (p x:Int):Int×Ac×Am:=(0,op0,⟨p,x⟩)
def arity (op:Int):Int:=if op=1∨op=2∨op=3 then 0 else if op=5∨op=6 then 1 else if op=20 then 3 else if op=4 then -1 else 2
theorem V4 (op:Int):EG op=some (arity op):=by
 by_cases c:op=1
 . subst c;rfl
 by_cases d:op=2
 . subst d;rfl
 by_cases e:op=3
 . subst e;rfl
 by_cases f:op=5
 . subst f;rfl
 by_cases g:op=6
 . subst g;rfl
 by_cases b:op=20
 . subst b;rfl
 by_cases i:op=4
 . subst i;rfl
 unfold EG arity
 have b1:(op == 1)=false:=by simpa using c
 have b2:(op == 2)=false:=by simpa using d
 have b3:(op == 3)=false:=by simpa using e
 have b4:(op == 4)=false:=by simpa using i
 have b5:(op == 5)=false:=by simpa using f
 have b6:(op == 6)=false:=by simpa using g
 have b20:(op == 20)=false:=by simpa using b
 simp only [b1,b2,b3,b4,b5,b6,b20,Ì,Á]
 simp [c,d,e,i,f,g,b]
def hit (op:Int)(s:Æ)(o:Ac):Bool:=o.op == op&&(!(o.op == 4)||decide (o.name=s))
def pick (op:Int)(s:Æ)(ts:List Int)(l:List Ac):Option Ac:=l.find? fun o=>hit op s o&&decide (o.args=ts)
def known (op:Int)(s:Æ)(l:List Ac):Bool:=l.any (hit op s)
def H5 (op:Int)(s:Æ)(ts:List Int)(l:List Ac):Bool:=l.any fun o=>hit op s o&&((o.args.length:Int) == (ts.length:Int))
theorem L3 {k:Nat}(h:k<4611686018427387904):À ((k:Int)+1)=((k+1:Nat):Int):=by
 rw [BF (by omega) (by omega)];omega
theorem L2 {α:Type}{l:List α}{k:Nat}{x:α}{r:List α}(h:l.drop k=x::r):gi l (k:Int)=some x:=by
 have a:l[k]?=some x:=by
  have:=congrArg (·[0]?) h
  simpa [List.getElem?_drop] using this
 unfold gi
 rw [È (by omega)];exact a
theorem DM {α:Type}{l:List α}{k:Nat}{x:α}{r:List α}(h:l.drop k=x::r):l.drop (k+1)=r/\k<l.length:=by
 constructor
 . have:=congrArg (List.drop 1) h
   rw [List.drop_drop] at this
   rw [this];rfl
 . by_cases a:k<l.length
   . exact a
   . rw [Ĕ (by omega)] at h;cases h
theorem Hh {α:Type}{l:List α}{k:Nat}(h:l.drop k=[])(hk:k<=l.length):k=l.length:=by
 have:=congrArg List.length h
 rw [List.length_drop,ö] at this
 omega
theorem Mf {k n:Nat}(h:k<n):(decide ((k:Int)<(n:Int)))=true:=by rw [Ï];omega
theorem Abt (a b:List Int)(hab:a.length=b.length)(ha:a.length<=1000000000):∀ (r:List Int) (k:Nat),a.drop k=r->k<=a.length->Ev (fun n=>Cg n a b (k:Int)) (if a.drop k=b.drop k then .inl () else .inr false)
 | [],k,hr,hk=>by
  have he:=Hh hr hk
  refine Ev.step (f:=fun n=>some (.inl ())) (fun n=>?_) ?_
  . rw [Cg.eq_2,show (decide ((k:Int)<(a.length:Int)))=false by rw [Ò];omega];rfl
  . rw [È (by rw [hr,Ĕ (by omega)])];exact Ev.pure
 |x::r,k,hr,hk=>by
  obtain⟨h1,h2⟩:=DM hr
  have hkb:k<b.length:=by omega
  have hb:b.drop k=b[k]::b.drop (k+1):=List.drop_eq_getElem_cons hkb
  have ih:=Abt a b hab ha r (k+1) h1 (by omega)
  refine Ev.step (f:=fun n=>bif (x != b[k]) then some (.inr false) else Cg n a b ((k+1:Nat):Int)) (fun n=>?_) ?_
  . rw [Cg.eq_2,Mf h2,Î,L2 hr,Á,L2 hb,Á,L3 (by omega)]
  . by_cases d:x=b[k]
    . subst d
      simp only [é,Ì]
      have e:(a.drop k=b.drop k)↔(a.drop (k+1)=b.drop (k+1)):=by
       rw [hr,hb,h1]
       exact⟨fun h=>(Ĵ h).2,fun h=>by rw [h]⟩
      by_cases c:a.drop (k+1)=b.drop (k+1)
      . rw [È (e.2 c)];rw [È c] at ih;exact ih
      . rw [Ä (fun h=>c (e.1 h))];rw [Ä c] at ih;exact ih
    . rw [Ä (by rw [hr,hb];intro h;exact d (Ĵ h).1)]
      simp only [show (x != b[k])=true by simpa using d,Î]
      exact Ev.pure
theorem Abs (a b:List Int)(ha:a.length<=1000000000):Ev (fun n=>Eo n a b) (decide (a=b)):=by
 unfold Eo
 by_cases h:a.length=b.length
 . rw [show ((a.length:Int) != (b.length:Int))=false by simp [h]]
   simp only [Ì]
   refine Ev.bind (Abt a b h ha _ 0 rfl (ò _)) ?_
   simp only [List.drop_zero]
   by_cases e:a=b
   . rw [È e,Í e];exact Ev.pure
   . rw [Ä e,Ç e];exact Ev.pure
 . rw [show ((a.length:Int) != (b.length:Int))=true by simp;omega]
   rw [Ç (fun e=>h (by rw [e]))]
   exact Ev.pure
def AY (op:Int)(s:Æ)(ts:List Int)(l:List Ac)(kn fi:Bool):(Bool×Bool) ⊕ (Int×Ac×Am) :=
 match pick op s ts l with
 |some o=>.inr (o.kind,o,⟨0,0⟩)
 |none=>.inl (kn||known op s l,fi||H5 op s ts l)
theorem Nx (l:List Ac)(ns:List (ByteArray×Int))(e:Af)(ts:List Int)(hl:l.length<=1000000)(ha:∀ o∈l,o.args.length<=1000) :
 ∀ (r:List Ac) (k:Nat) (kn fi:Bool),l.drop k=r->k<=l.length->Ev (fun n=>AQ n ⟨l,ns⟩ e ts kn fi (k:Int)) (AY e.Op e.S ts r kn fi)
 | [],k,kn,fi,hr,hk=>by
  have he:=Hh hr hk
  refine Ev.step (f:=fun n=>some (.inl (kn,fi))) (fun n=>?_) ?_
  . rw [AQ.eq_2,show (decide ((k:Int)<(l.length:Int)))=false by rw [Ò];omega];rfl
  . have:AY e.Op e.S ts [] kn fi=.inl (kn,fi):=by simp [AY,pick,known,H5]
    rw [this];exact Ev.pure
 |o::r,k,kn,fi,hr,hk=>by
  obtain⟨j,m⟩:=DM hr
  have c:o∈l:=á (by rw [hr];simp)
  have a:((bif (o.op != e.Op) then some true else bif (o.op == 4) then some (!decide (o.name=e.S)) else some false):Option Bool)=some (!hit e.Op e.S o):=by
   unfold hit
   by_cases c1:o.op=e.Op
   . rw [show (o.op != e.Op)=false by simp [c1],show (o.op == e.Op)=true by simp [c1],Ì,č]
     cases c2:(o.op == 4) with
     |true=>simp
     |false=>simp
   . rw [show (o.op != e.Op)=true by simp [c1],show (o.op == e.Op)=false by simp [c1],Î,Ī];rfl
  cases b:hit e.Op e.S o with
  |false =>
   have ih:=Nx l ns e ts hl ha r (k+1) kn fi j (by omega)
   have es:AY e.Op e.S ts (o::r) kn fi=AY e.Op e.S ts r kn fi:=by simp [AY,pick,known,H5,b]
   rw [es]
   refine Ev.step (fun n=>?_) ih
   rw [AQ.eq_2,Mf m,Î,L2 hr,Á,a,b,Á,ć,Î,L3 (by omega)]
  |true =>
   have d:((bif fi then some true else some ((o.args.length:Int) == (ts.length:Int))):Option Bool)=some (fi||((o.args.length:Int) == (ts.length:Int))):=by cases fi<;>rfl
   refine Ev.step (f:=fun n=>(Eo n o.args ts).bind fun e9=>bif e9 then some (.inr (o.kind,o,⟨0,0⟩)) else AQ n ⟨l,ns⟩ e ts true (fi||((o.args.length:Int) == (ts.length:Int))) ((k+1:Nat):Int)) (fun n=>?_) ?_
   . rw [AQ.eq_2,Mf m,Î,L2 hr,Á,a,b,Á,Ā,Ì,d,Á,L3 (by omega)]
   . refine Ev.bind (Abs o.args ts (by have:=ha o c;omega)) ?_
     by_cases e1:o.args=ts
     . have es:AY e.Op e.S ts (o::r) kn fi=.inr (o.kind,o,⟨0,0⟩):=by simp [AY,pick,b,e1]
       rw [Í e1,es];exact Ev.pure
     . have ih:=Nx l ns e ts hl ha r (k+1) true (fi||((o.args.length:Int) == (ts.length:Int))) j (by omega)
       have es:AY e.Op e.S ts (o::r) kn fi=AY e.Op e.S ts r true (fi||((o.args.length:Int) == (ts.length:Int))):=by
        have p:pick e.Op e.S ts (o::r)=pick e.Op e.S ts r:=by simp [pick,b,e1]
        have g:known e.Op e.S (o::r)=true:=by simp [known,b]
        have i:H5 e.Op e.S ts (o::r)=(((o.args.length:Int) == (ts.length:Int))||H5 e.Op e.S ts r):=by simp [H5,b]
        unfold AY
        rw [p,g,i]
        cases pick e.Op e.S ts r with
        |some o'=>rfl
        |none=>simp only [Bool.or_true,Bool.true_or,Bool.or_assoc]
       rw [Ç e1,es]
       exact ih
end Go.Sp
namespace Go.Sp
open Go
def Ue (i:Nat):Int:=((opk[i]?).map (·.1)).getD 0
theorem Wt {i:Nat}{o:Ac}(h:o∈Hd i):o.op=Ue i:=by
 unfold Hd at h
 unfold Ue
 split at h
 . rename_i op f e
   rw [e]
   unfold Jq at h
   split at h<;>simp at h
   . rcases h with rfl|rfl|rfl<;>rfl
   . rcases h with rfl|rfl<;>rfl
 . simp at h
theorem Aat:∀ i,i<6->∀ j,j<6->Ue i=Ue j->i=j:=by decide
theorem Pg {l:List Nat}{op:Int}(h:∀ i∈l,Ue i≠op):(l.flatMap Hd).filter (fun o=>o.op == op)=[]:=by
 rw [Ĳ]
 intro o b
 obtain⟨i,c,a⟩:=List.mem_flatMap.1 b
 have:=h i c
 rw [<- Wt a] at this
 simpa using this
theorem VX {os:List Nat}(h:Ord os)(op:Int):(os.flatMap Hd).filter (fun o=>o.op == op)=match (List.range 6).find? (fun i=>Ue i == op) with|some i=>Hd i|none=>[]:=by
 cases c:(List.range 6).find? (fun i=>Ue i == op) with
 |none =>
  rw [List.find?_eq_none] at c
  refine Pg fun i m=>?_
  have:=c i (List.mem_range.2 (h.2.1 i m))
  simpa using this
 |some i =>
  have d:=List.find?_some c
  have l:=List.mem_range.1 (List.mem_of_find?_eq_some c)
  have d:Ue i=op:=by simpa using d
  obtain⟨l1,l2,rfl⟩:=List.append_of_mem (h.2.2 i l)
  have a:=h.1
  rw [ė] at a
  have f:i∉l1:=fun n=>a.2.2 i n i (by simp) rfl
  have g:i∉l2:=(List.nodup_cons.1 a.2.1).1
  have other:∀ j∈l1++i::l2,j≠i->Ue j≠op:=fun j b k e=>k (Aat j (h.2.1 j b) i l (e.trans d.symm))
  rw [List.flatMap_append,Ğ,List.flatMap_cons,Ğ]
  rw [Pg (fun j b=>other j (by simp [b]) (fun e=>f (e ▸ b))),Pg (fun j b=>other j (by simp [b]) (fun e=>g (e ▸ b)))]
  rw [ê,ă]
  refine List.filter_eq_self.2 fun o p=>?_
  rw [Wt p,d];simp
def D4:List Ac:=opsOf [0,1,2,3,4,5]
theorem Ud:Ord [0,1,2,3,4,5]:=by decide
theorem X4 {os:List Nat}(h:Ord os)(op:Int):(opsOf os).filter (fun o=>o.op == op)=D4.filter (fun o=>o.op == op):=by
 unfold D4 opsOf
 rw [Ğ,Ğ,Ğ,Ğ,VX h,VX Ud]
theorem Uo {op:Int}{s:Æ}{o:Ac}(h:hit op s o=true):(o.op == op)=true:=by
 unfold hit at h
 rw [Å] at h
 exact h.1
theorem Yy (op:Int)(s:Æ)(o:Ac):((o.op == op)&&hit op s o)=hit op s o:=by
 cases h:hit op s o with
 |false=>simp
 |true=>simp [Uo h]
theorem P4 (op:Int)(s:Æ)(ts:List Int)(l:List Ac):pick op s ts (l.filter fun o=>o.op == op)=pick op s ts l:=by
 unfold pick
 rw [List.find?_filter]
 congr 1
 funext o
 cases h:hit op s o with
 |false=>simp
 |true=>simp [Uo h]
theorem Oq (op:Int)(s:Æ)(l:List Ac):known op s (l.filter fun o=>o.op == op)=known op s l:=by
 unfold known
 rw [List.any_filter]
 congr 1
 funext o
 exact Yy op s o
theorem PF (op:Int)(s:Æ)(ts:List Int)(l:List Ac):H5 op s ts (l.filter fun o=>o.op == op)=H5 op s ts l:=by
 unfold H5
 rw [List.any_filter]
 congr 1
 funext o
 rw [<- Bool.and_assoc,Yy]
theorem TO {os:List Nat}(h:Ord os)(op:Int)(s:Æ)(ts:List Int)(kn fi:Bool):AY op s ts (opsOf os) kn fi=AY op s ts D4 kn fi:=by
 unfold AY
 rw [<- P4,<- Oq,<- PF,X4 h,P4,Oq,PF]
theorem Zi {os:List Nat}(h:Ord os):(opsOf os).length<=1000000:=by
 unfold opsOf
 have:=R4 os
 have a:=ndl 6 os h.1 h.2.1
 rw [Ú,Ú]
 have e1:Fq.length=17:=rfl
 have e2:MV.length=8:=rfl
 omega
theorem Xe {os:List Nat}:∀ o∈opsOf os,o.args.length<=1000:=by
 intro o ho
 unfold opsOf at ho
 rcases List.mem_append.1 ho with ho|ho
 . rcases List.mem_append.1 ho with ho|ho
   . have:Fq.all (fun o=>decide (o.args.length<=1000))=true:=by decide
     rw [Ø] at this
     simpa using this o ho
   . obtain⟨i,_,a⟩:=List.mem_flatMap.1 ho
     unfold Hd at a
     split at a
     . unfold Jq at a
       split at a<;>simp at a
       . rcases a with rfl|rfl|rfl<;>simp
       . rcases a with rfl|rfl<;>simp
     . simp at a
 . have:MV.all (fun o=>decide (o.args.length<=1000))=true:=by decide
   rw [Ø] at this
   simpa using this o ho
mutual
def CY:Af->Bool
 |.mk _ _ _ kids _=>decide (kids.length<=1000000)&&Gx kids
def Gx:List Af->Bool
 | []=>true
 |e::l=>CY e&&Gx l
end
mutual
def AI:Af->Int×Ac×Am
 |.mk op n s kids p =>
  if op<1∨20<op∨(0<=arity op/\(kids.length:Int)≠arity op) then Wz p 1
  else match Cc kids with
   |.inr o=>o
   |.inl ts =>
    if op=1 then (if n<0∨999999999999999<n then Wz p 1 else (1,op0,⟨0,0⟩))
    else if op=2 then Wz p 7
    else if op=3 then (if (B1 BX s).2=true then ((B1 BX s).1,op0,⟨0,0⟩) else Wz p 6)
    else match AY op s ts D4 false false with
     |.inr o=>o
     |.inl (kn,fi)=>if op=4/\kn=false then Wz p 6 else if op=4/\fi=false then Wz p 1 else Wz p 7
def Cc:List Af->List Int ⊕ (Int×Ac×Am)
 | []=>.inl []
 |e::l =>
  if (AI e).2.2.E≠0 then .inr (0,op0,(AI e).2.2)
  else match Cc l with
   |.inl ts=>.inl ((AI e).1::ts)
   |.inr o=>.inr o
end
theorem Y2 {l ys:List Int}(h1:l.length<=1000000)(h2:ys.length<=1000000):CC 8 l ys=some (l++ys):=by
 unfold CC
 rw [È (by omega)]
theorem VM (s:Bp)(e:Af)(hk:e.Kids.length<=1000000)(hf:∀ x∈e.Kids,Ev (fun n=>A6 n s x) (AI x)) :
 ∀ (r:List Af) (k:Nat) (ts:List Int),e.Kids.drop k=r->k<=e.Kids.length->ts.length=k->Ev (fun n=>Bv n e s ts (k:Int)) (match Cc r with|.inl us=>.inl (ts++us)|.inr o=>.inr o)
 | [],k,ts,hr,hkl,_=>by
  have he:=Hh hr hkl
  refine Ev.step (f:=fun n=>some (.inl ts)) (fun n=>?_) ?_
  . rw [Bv.eq_2,show (decide ((k:Int)<(e.Kids.length:Int)))=false by rw [Ò];omega];rfl
  . rw [Cc];simp only [ă];exact Ev.pure
 |x::r,k,ts,hr,hkl,hts=>by
  obtain⟨h1,h2⟩:=DM hr
  have hmem:x∈e.Kids:=á (by rw [hr];simp)
  refine Ev.step (f:=fun n=>(A6 n s x).bind fun f7=>bif (f7.2.2.E != 0) then some (.inr (0,op0,f7.2.2)) else Bv n e s (ts++[f7.1]) ((k+1:Nat):Int)) (fun n=>?_) ?_
  . rw [Bv.eq_2,Mf h2,Î,L2 hr,Á]
    congr 1
    funext f7
    rw [Á,Y2 (by omega) (by simp),Á,L3 (by omega)]
    rfl
  . refine Ev.bind (hf x hmem) ?_
    rw [Cc]
    by_cases c:(AI x).2.2.E=0
    . have ih:=VM s e hk hf r (k+1) (ts++[(AI x).1]) h1 (by omega) (by simp [hts])
      simp only [show ((AI x).2.2.E != 0)=false by simpa using c,Ì]
      rw [Ä (by simpa using c)]
      cases ht:Cc r with
      |inl us=>rw [ht] at ih;simpa [ð] using ih
      |inr o=>rw [ht] at ih;exact ih
    . simp only [show ((AI x).2.2.E != 0)=true by simpa using c,Î]
      rw [È c];exact Ev.pure
theorem Z3 (ops:List Ac)(os:List Nat)(ho:Ord os)(hops:ops=opsOf os)(e:Af)(hk:e.Kids.length<=1000000)(hf:∀ x∈e.Kids,Ev (fun n=>A6 n ⟨ops,BX⟩ x) (AI x)) :
 Ev (fun n=>A6 n ⟨ops,BX⟩ e) (AI e):=by
 obtain⟨op,num,str,kids,at0⟩:=e
 simp only at hk hf
 have b:=VM ⟨ops,BX⟩ ⟨op,num,str,kids,at0⟩ hk hf kids 0 [] rfl (ò _) rfl
 have a:∀ ts,Ev (fun n=>AQ n ⟨ops,BX⟩ ⟨op,num,str,kids,at0⟩ ts false false 0) (AY op str ts D4 false false):=fun ts=>by
  have:=Nx ops BX ⟨op,num,str,kids,at0⟩ ts (by rw [hops];exact Zi ho) (by rw [hops];exact Xe) ops 0 false false rfl (ò _)
  rw [hops,TO ho] at this
  rw [hops];exact this
 refine Ev.step (fun n=>A6.eq_2 ⟨ops,BX⟩ ⟨op,num,str,kids,at0⟩ n) ?_
 simp only [V4,Á,AP]
 rw [AI]
 have j:((bif (decide (op<1)) then some true else bif (decide (20<op)) then some true else bif (decide (0<=arity op)) then some ((kids.length:Int) != arity op) else some false):Option Bool) =
  some (decide (op<1∨20<op∨(0<=arity op/\(kids.length:Int)≠arity op))):=by
  by_cases c1:op<1
  . simp [c1]
  by_cases c2:20<op
  . simp [c1,c2]
  by_cases c3:0<=arity op
  . by_cases c4:(kids.length:Int)=arity op
    . simp [c1,c2,c3,c4]
    . simp [c1,c2,c3,c4]
  . simp [c1,c2,c3]
 simp only [j,Á]
 by_cases c:op<1∨20<op∨(0<=arity op/\(kids.length:Int)≠arity op)
 . rw [È c]
   simp only [Í c,Î,Á]
   exact Ev.pure
 . rw [Ä c]
   simp only [Ç c,Ì]
   refine Ev.bind b ?_
   cases k:Cc kids with
   |inr o=>exact Ev.pure
   |inl ts =>
    simp only [ê]
    by_cases d:op=1
    . subst d
      simp only [ì,Î,ñ]
      by_cases n1:num<0
      . simp only [n1,decide_true,Î,Á,true_or,ñ];exact Ev.pure
      . by_cases n2:999999999999999<num
        . simp only [n1,n2,decide_true,decide_false,Î,Ì,Á,or_true,ñ];exact Ev.pure
        . simp only [n1,n2,decide_false,Ì,Á,or_self,ó];exact Ev.pure
    simp only [show (op == 1)=false by simpa using d,Ì,Ä d]
    by_cases f:op=2
    . subst f
      simp only [ì,Î,ñ,Á];exact Ev.pure
    simp only [show (op == 2)=false by simpa using f,Ì,Ä f]
    by_cases g:op=3
    . subst g
      simp only [ì,Î,ñ]
      cases l:(B1 BX str).2 with
      |true=>simp only [Î,ñ];exact Ev.pure
      |false=>simp only [Ì,Þ,ó,Á];exact Ev.pure
    simp only [show (op == 3)=false by simpa using g,Ì,Ä g]
    refine Ev.bind (a ts) ?_
    cases hs:AY op str ts D4 false false with
    |inr o=>exact Ev.pure
    |inl y =>
     obtain⟨kn,fi⟩:=y
     simp only
     by_cases i:op=4
     . subst i
       simp only [ì,Î,Á,û]
       cases kn with
       |false=>simp only [ć,Î,ñ,Á];exact Ev.pure
       |true =>
        cases fi with
        |false=>simp only [Ā,ć,Î,Ì,ñ,Á,Bool.true_eq_false,ó];exact Ev.pure
        |true=>simp only [Ā,Ì,Á,Bool.true_eq_false,ó];exact Ev.pure
     . simp only [show (op == 4)=false by simpa using i,Ì,Á,i,false_and,ó];exact Ev.pure
mutual
theorem Uu {os:List Nat}(ho:Ord os):∀ (e:Af),CY e=true->Ev (fun n=>A6 n ⟨opsOf os,BX⟩ e) (AI e)
 |.mk op num str kids at0,h=>by
  rw [CY,Å,Ï] at h
  exact Z3 (opsOf os) os ho rfl _ h.1 (VZ ho kids h.2)
theorem VZ {os:List Nat}(ho:Ord os):∀ (l:List Af),Gx l=true->∀ x∈l,Ev (fun n=>A6 n ⟨opsOf os,BX⟩ x) (AI x)
 | [],_,x,hx=>by simp at hx
 |e::l,h,x,hx=>by
  rw [Gx,Å] at h
  rcases List.mem_cons.1 hx with hx|hx
  . rw [hx];exact Uu ho e h.1
  . exact VZ ho l h.2 x hx
end
def Mn (e:Af):Option (Int×Ac×Am):=if CY e=true then some (AI e) else none
end Go.Sp
namespace Go.Sp
open Go
def Fp (n:Int):Int:=if n < -999999999999999 then -999999999999999 else if 999999999999999<n then 999999999999999 else n
def Mw (n:Int):Int:=if n<0 then 0 else if 41667<n then 41667 else n
def NI (n:Int):Int:=if n<0 then 0 else if 1000<n then 1000 else n
def KI (d n:Int):Int:=if d=41667 then d else Mw (d+n)
def II (t v:Int):Prop:=(t=1/\-999999999999999<=v/\v<=999999999999999)∨(t=2/\0<=v/\v<=41667)∨(t=3/\0<=v/\v<=1)∨(t=4/\0<=v/\v<=1000)
def okF (f:Br):Bool:=decide (1<=f.Kind/\f.Kind<=5/\1<=f.Who/\f.Who<=1000/\0<=f.Day/\f.Day<=41666/\0<=f.Known/\f.Known<=41666)
def Da (d:Ai)(known:Int):Int :=
 if 200<d.Facts.length then 2
 else if d.Facts.all okF=true/\0<=d.Stored/\d.Stored<=41666/\0<=known/\known<=41666/\0<=d.Owner/\d.Owner<=1000 then 0 else 1
structure NK (m:Ah):Prop where
 len:m.d.Facts.length<=200
 facts:∀ f∈m.d.Facts,okF f=true
 st:0<=m.d.Stored/\m.d.Stored<=41666
 kn:0<=m.known/\m.known<=41666
 ow:0<=m.d.Owner/\m.d.Owner<=1000
theorem Xi {m:Ah}(h:Da m.d m.known=0):NK m:=by
 unfold Da at h
 split at h
 . cases h
 . rename_i c
   split at h
   . rename_i b
     exact⟨by omega,List.all_eq_true.1 b.1,⟨b.2.1,b.2.2.1⟩,⟨b.2.2.2.1,b.2.2.2.2.1⟩,b.2.2.2.2.2⟩
   . cases h
theorem Xb (x1 x0 y1 y0:Int):(4294967296*x1+x0)*(4294967296*y1+y0)=18446744073709551616*(x1*y1)+4294967296*(x1*y0)+4294967296*(x0*y1)+x0*y0:=by
 grind
theorem Ab8 {x:Int}(h0:0<=x)(h1:x<18446744073709551616):bits .and .u64 x 4294967295=x % 4294967296:=by
 have h:=bits_mask .u64 64 (by decide) wraps_u64 32 (by decide) x h0 (by omega)
 simpa using h
theorem Aay (x y:Int)(hx:0<=x)(hx2:x<=999999999999999)(hy:0<=y)(hy2:y<=999999999999999):Ft x y=some (x*y / 18446744073709551616,x*y % 18446744073709551616):=by
 have hs:(2:Int) ^ min (32:Int).toNat IntKind.u64.bits=4294967296:=by decide
 unfold Ft
 rw [hs,Ab8 hx (by omega),Ab8 hy (by omega)]
 simp only [Int.fdiv_eq_ediv_of_nonneg _ (show (0:Int)<=4294967296 by decide)]
 have ex:x=4294967296*(x / 4294967296)+x % 4294967296:=by omega
 have ey:y=4294967296*(y / 4294967296)+y % 4294967296:=by omega
 have a:=Xb (x / 4294967296) (x % 4294967296) (y / 4294967296) (y % 4294967296)
 rw [<- ex,<- ey] at a
 rw [IntKind.wrap_u64 (x*y)]
 have b1:0<=x / 4294967296/\x / 4294967296<=232831:=by omega
 have b2:0<=x % 4294967296/\x % 4294967296<=4294967295:=by omega
 have b3:0<=y / 4294967296/\y / 4294967296<=232831:=by omega
 have b4:0<=y % 4294967296/\y % 4294967296<=4294967295:=by omega
 generalize x / 4294967296=x1 at *
 generalize x % 4294967296=x0 at *
 generalize y / 4294967296=y1 at *
 generalize y % 4294967296=y0 at *
 have p1:=Int.mul_le_mul b1.2 b3.2 b3.1 (by decide)
 have p2:=Int.mul_le_mul b1.2 b4.2 b4.1 (by decide)
 have p3:=Int.mul_le_mul b2.2 b3.2 b3.1 (by decide)
 have p4:=Int.mul_le_mul b2.2 b4.2 b4.1 (by decide)
 have q1:=Int.mul_nonneg b1.1 b3.1
 have q2:=Int.mul_nonneg b1.1 b4.1
 have q3:=Int.mul_nonneg b2.1 b3.1
 have q4:=Int.mul_nonneg b2.1 b4.1
 rw [a]
 generalize x1*y1=A at *
 generalize x1*y0=B at *
 generalize x0*y1=E at *
 generalize x0*y0=C at *
 rw [wraps_u64 A (by omega) (by omega),wraps_u64 B (by omega) (by omega),wraps_u64 C (by omega) (by omega),wraps_u64 E (by omega) (by omega)]
 rw [wraps_u64 (B+C / 4294967296) (by omega) (by omega)]
 rw [Ab8 (by omega) (by omega)]
 rw [wraps_u64 (A+(B+C / 4294967296) / 4294967296) (by omega) (by omega),wraps_u64 ((B+C / 4294967296) % 4294967296+E) (by omega) (by omega)]
 rw [wraps_u64 _ (by omega) (by omega)]
 congr 2
 omega
theorem Acd {a:Int}(h : -999999999999999<=a/\a<=999999999999999):IntKind.u64.wrap (if (À (0-a)) > a then (À (0-a)) else a)=if a<0 then -a else a:=by
 rw [BF (by omega) (by omega)]
 by_cases c:a<0
 . rw [È (by omega),È c,wraps_u64 _ (by omega) (by omega)];omega
 . rw [Ä (by omega),Ä c,wraps_u64 _ (by omega) (by omega)]
theorem ZX (a b:Int)(ha : -999999999999999<=a/\a<=999999999999999)(hb : -999999999999999<=b/\b<=999999999999999):DG a b=some (Fp (a*b)):=by
 unfold DG
 rw [Acd ha,Acd hb]
 generalize f:(if a<0 then -a else a)=x
 generalize g:(if b<0 then -b else b)=y
 have x0:0<=x/\x<=999999999999999:=by split at f<;>omega
 have y0:0<=y/\y<=999999999999999:=by split at g<;>omega
 rw [Aay x y x0.1 x0.2 y0.1 y0.2,Á]
 have k:=Int.mul_nonneg x0.1 y0.1
 have d:a*b=if (decide (a<0)) == (decide (b<0)) then x*y else -(x*y):=by
  grind [DG,Fp]
 generalize x*y=p at *
 have i:((bif ((p / 18446744073709551616:Int) == 0) then some (decide ((p % 18446744073709551616:Int)<999999999999999)) else some false):Option Bool)=some (decide (p<999999999999999)):=by
  by_cases c:p / 18446744073709551616=0
  . grind [DG,Fp]
  . rw [show ((p / 18446744073709551616:Int) == 0)=false by simpa using c,Ì]
    congr 1
    symm;rw [Ò];omega
 simp only [i,Á]
 have j:((bif (decide (p<999999999999999)) then some (À (p % 18446744073709551616)) else some 999999999999999):Option Int)=some (if p<999999999999999 then p else 999999999999999):=by
  by_cases c:p<999999999999999
  . rw [Í c,Î,È c,BF (by omega) (by omega)];congr 1;omega
  . rw [Ç c,Ì,Ä c]
 simp only [j,Á]
 rw [d]
 have e:∃ q,(if p<999999999999999 then p else 999999999999999)=q/\0<=q/\q<=999999999999999/\(p<=999999999999999->q=p)/\(999999999999999<p->q=999999999999999):=by
  refine⟨_,rfl,?_⟩
  split<;>omega
 obtain⟨q,e,q1,q2,q3,q4⟩:=e
 rw [e]
 unfold Fp
 cases l:(decide (a<0)) == (decide (b<0)) with
 |true =>
  rw [Ā,Ì,È rfl,Ä (by omega)]
  congr 1
  by_cases c:999999999999999<p
  . rw [È c];omega
  . rw [Ä c];omega
 |false =>
  rw [ć,Î,Ä Bool.false_ne_true,BF (by omega) (by omega)]
  congr 1
  by_cases c:999999999999999<p
  . rw [È (by omega)];omega
  . rw [Ä (by omega),Ä (by omega)];omega
def Zx (known kind who:Int)(f:Br):Bool:=f.Kind == kind&&(f.Who == who&&decide (f.Known<=known))
def QX (b:Option Br)(f:Br):Bool:=match b with
 |none=>true
 |some g=>decide (g.Known<=f.Known)
def Kr (p:Br->Bool):List Br->Option Br->Option Br
 | [],b=>b
 |f::r,b=>Kr p r (if (p f&&QX b f)=true then some f else b)
def Aeb:Option Br->Int
 |none=>41667
 |some f=>f.Day
def Nd (m:Ah)(kind who:Int):Int:=Aeb (Kr (Zx m.known kind who) m.d.Facts none)
def Ahj (l:List Br)(i:Int)(b:Option Br):Prop:=match b with
 |none=>i = -1
 |some f=>0<=i/\gi l i=some f
theorem RB (m:Ah)(kind who:Int)(hl:m.d.Facts.length<=200):∀ (r:List Br) (k:Nat) (i:Int) (b:Option Br),m.d.Facts.drop k=r->k<=m.d.Facts.length->Ahj m.d.Facts i b ->
 ∃ j,Ev (fun n=>Bw n m kind who i (k:Int)) j/\Ahj m.d.Facts j (Kr (Zx m.known kind who) r b)
 | [],k,i,b,hr,hk,hb=>by
  have he:=Hh hr hk
  refine⟨i,Ev.step (f:=fun n=>some i) (fun n=>?_) Ev.pure,hb⟩
  rw [Bw.eq_2,show (decide ((k:Int)<(m.d.Facts.length:Int)))=false by rw [Ò];omega];rfl
 |f::r,k,i,b,hr,hk,hb=>by
  obtain⟨h1,h2⟩:=DM hr
  have hg:=L2 hr
  have hc:((bif (f.Kind == kind) then
   bif (f.Who == who) then
    bif (decide (f.Known<=m.known)) then
     bif (decide (i<0)) then
      some true
     else
      (gi m.d.Facts i).bind fun x2 =>
      some (decide (x2.Known<=f.Known))
    else
     some false
   else
    some false
   else
    some false
   ):Option Bool)=some (Zx m.known kind who f&&QX b f):=by
   unfold Zx
   cases (f.Kind == kind)<;>cases (f.Who == who)<;>cases (decide (f.Known<=m.known))<;>simp only [Î,Ì,Ķ,č,Ī,Bool.and_false]
   cases b with
   |none =>
    have:i = -1:=hb
    subst this
    rfl
   |some g =>
    have hb:0<=i/\gi m.d.Facts i=some g:=hb
    rw [show decide (i<0)=false by rw [Ò];omega,Ì,hb.2];rfl
  cases e:(Zx m.known kind who f&&QX b f) with
  |true =>
   obtain⟨j,a,c⟩:=RB m kind who hl r (k+1) (k:Int) (some f) h1 (by omega) ⟨by omega,hg⟩
   refine⟨j,Ev.step (fun n=>?_) a,?_⟩
   . grind [Bw.eq_2,Mf,L3]
   . rw [Kr,È e];exact c
  |false =>
   obtain⟨j,a,c⟩:=RB m kind who hl r (k+1) i b h1 (by omega) hb
   refine⟨j,Ev.step (fun n=>?_) a,?_⟩
   . grind [Bw.eq_2,Mf,L3]
   . rw [Kr,Ä (by rw [e];exact Bool.false_ne_true)];exact c
theorem Ad7 (m:Ah)(kind who:Int)(hl:m.d.Facts.length<=200):Ev (fun n=>CD n m kind who) (Nd m kind who):=by
 obtain⟨j,b,a⟩:=RB m kind who hl m.d.Facts 0 (-1) none rfl (ò _) rfl
 unfold CD
 refine Ev.bind b ?_
 unfold Nd
 cases hb:Kr (Zx m.known kind who) m.d.Facts none with
 |none =>
  rw [hb] at a
  have:j = -1:=a
  subst this
  exact Ev.pure
 |some f =>
  rw [hb] at a
  have a:0<=j/\gi m.d.Facts j=some f:=a
  simp only [show decide (j<0)=false by rw [Ò];omega,Ì,a.2,Á]
  exact Ev.pure
theorem Tv {p:Br->Bool}:∀ {l:List Br} {b:Option Br} {f:Br},Kr p l b=some f->f∈l∨b=some f
 | [],b,f,h=>.inr h
 |x::l,b,f,h=>by
  rw [Kr] at h
  rcases Tv h with h|h
  . exact .inl (â _ h)
  . split at h
    . exact .inl (by rw [Ag h];simp)
    . exact .inr h
theorem Aa3 {m:Ah}(hm:NK m)(kind who:Int):0<=Nd m kind who/\Nd m kind who<=41667:=by
 unfold Nd
 cases hb:Kr (Zx m.known kind who) m.d.Facts none with
 |none=>exact⟨by decide,by decide⟩
 |some f =>
  rcases Tv hb with h|h
  . have:=hm.facts f h
    unfold okF at this
    rw [Ï] at this
    unfold Aeb
    simp only
    omega
  . cases h
def Ow (b:Bool):Int:=if b=true then 1 else 0
def Sy (m:Ah)(d:Do)(x:List Int):Int:=match d with
 |.c 82=>-(x.getD 0 0)
 |.c 83=>Fp (x.getD 0 0*x.getD 1 0)
 |.c 85=>Fp (x.getD 0 0+x.getD 1 0)
 |.c 87=>KI (x.getD 0 0) (x.getD 1 0)
 |.c 89=>Fp (x.getD 0 0-x.getD 1 0)
 |.c 90=>KI (x.getD 0 0) (-(x.getD 1 0))
 |.c 91=>x.getD 0 0-x.getD 1 0
 |.c 92=>1-x.getD 0 0
 |.c 93=>x.getD 0 0*x.getD 1 0
 |.c 94=>max (x.getD 0 0) (x.getD 1 0)
 |.c 95=>Mw (x.getD 0 0)
 |.c 97=>NI (x.getD 0 0)
 |.c 108=>if x.getD 0 0=1 then x.getD 1 0 else x.getD 2 0
 |.c 109=>min (x.getD 0 0) (x.getD 1 0)
 |.c 110=>max (x.getD 0 0) (x.getD 1 0)
 |.k k=>Nd m (k+1) (x.getD 0 0)
 |.is 100=>Ow (decide (x.getD 0 0<x.getD 1 0))
 |.is 101=>Ow (decide (x.getD 0 0<=x.getD 1 0))
 |.is 102=>Ow (decide (x.getD 1 0<x.getD 0 0))
 |.is 103=>Ow (decide (x.getD 1 0<=x.getD 0 0))
 |.is 104=>Ow (x.getD 0 0 == x.getD 1 0)
 |.is 105=>Ow (x.getD 0 0 != x.getD 1 0)
 |_=>0
def PY:List Int->List Int->Prop
 | [],[]=>True
 |t::ts,x::xs=>II t x/\PY ts xs
 |_,_=>False
theorem S4 {t:Int}{xs:List Int}(h:PY [t] xs):∃ a,xs=[a]/\II t a:=by
 match xs,h with
 | [a],h=>exact⟨a,rfl,h.1⟩
theorem VY {t u:Int}{xs:List Int}(h:PY [t,u] xs):∃ a b,xs=[a,b]/\II t a/\II u b:=by
 match xs,h with
 | [a,b],h=>exact⟨a,b,rfl,h.1,h.2.1⟩
theorem Aif {t u v:Int}{xs:List Int}(h:PY [t,u,v] xs):∃ a b c,xs=[a,b,c]/\II t a/\II u b/\II v c:=by
 match xs,h with
 | [a,b,c],h=>exact⟨a,b,c,rfl,h.1,h.2.1,h.2.2.1⟩
theorem SW (n:Int):Dj n=some (Fp n):=by
 unfold Dj Fp
 congr 1
 repeat' split
 all_goals omega
theorem Abx (n:Int):Ga n=some (Mw n):=by
 unfold Ga Mw
 congr 1
 repeat' split
 all_goals omega
theorem VD {d n:Int}(h : -1000000000000000<=n/\n<=1000000000000000)(h2:0<=d/\d<=41667):DH d n=some (KI d n):=by
 grind [DH,KI,Abx,BF]
theorem Aey {a b:Int}(ha:0<=a/\a<=1)(hb:0<=b/\b<=1):bits .and .i64 a b=a*b/\bits .or .i64 a b=max a b:=by
 have c:a=0∨a=1:=by omega
 have d:b=0∨b=1:=by omega
 rcases c with rfl|rfl<;>rcases d with rfl|rfl<;>decide
theorem Abi (b:Bool):(D9 b).bind (fun f=>some f)=some (Ow b):=by cases b<;>rfl
instance (t v:Int):Decidable (II t v):=by unfold II;exact inferInstance
theorem Ad2 (b:Bool):II 3 (Ow b):=by cases b<;>decide
theorem op1 {t:Int}(m:Ah){d:Do}{k:Int}(h:∀ a,II t a->Ev (fun n=>HA n d m [a]) (Sy m d [a])/\II k (Sy m d [a])):∀ xs,PY [t] xs->Ev (fun n=>HA n d m xs) (Sy m d xs)/\II k (Sy m d xs):=by
 intro xs b
 obtain⟨a,rfl,c⟩:=S4 b
 exact h a c
theorem op2 {t u:Int}(m:Ah){d:Do}{k:Int}(h:∀ a b,II t a->II u b->Ev (fun n=>HA n d m [a,b]) (Sy m d [a,b])/\II k (Sy m d [a,b])):∀ xs,PY [t,u] xs->Ev (fun n=>HA n d m xs) (Sy m d xs)/\II k (Sy m d xs):=by
 intro xs c
 obtain⟨a,b,rfl,e,f⟩:=VY c
 exact h a b e f
theorem op3 {t u v:Int}(m:Ah){d:Do}{k:Int}(h:∀ a b c,II t a->II u b->II v c->Ev (fun n=>HA n d m [a,b,c]) (Sy m d [a,b,c])/\II k (Sy m d [a,b,c])):∀ xs,PY [t,u,v] xs->Ev (fun n=>HA n d m xs) (Sy m d xs)/\II k (Sy m d xs):=by
 intro xs e
 obtain⟨a,b,c,rfl,f,g,i⟩:=Aif e
 exact h a b c f g i
theorem ZN {v:Int}(h:II 1 v) : -999999999999999<=v/\v<=999999999999999:=by unfold II at h;omega
theorem in2 {v:Int}(h:II 2 v):0<=v/\v<=41667:=by unfold II at h;omega
theorem Yw {v:Int}(h:II 3 v):0<=v/\v<=1:=by unfold II at h;omega
theorem to1 {v:Int}(h : -999999999999999<=v/\v<=999999999999999):II 1 v:=by unfold II;omega
theorem to2 {v:Int}(h:0<=v/\v<=41667):II 2 v:=by unfold II;omega
theorem to3 {v:Int}(h:0<=v/\v<=1):II 3 v:=by unfold II;omega
theorem to4 {v:Int}(h:0<=v/\v<=1000):II 4 v:=by unfold II;omega
theorem Pn (n:Int):II 1 (Fp n):=to1 (by unfold Fp;split<;>(try split)<;>omega)
theorem Tt (n:Int):II 2 (Mw n):=to2 (by unfold Mw;split<;>(try split)<;>omega)
theorem ZE (n:Int):II 4 (NI n):=to4 (by unfold NI;split<;>(try split)<;>omega)
theorem VE {d:Int}(n:Int)(h:0<=d/\d<=41667):II 2 (KI d n):=by
 unfold KI
 split
 . exact to2 h
 . exact Tt _
def UR (m:Ah)(o:Ac):Prop:=∀ xs,PY o.args xs->Ev (fun n=>HA n o.do_ m xs) (Sy m o.do_ xs)/\II o.kind (Sy m o.do_ xs)
theorem Adj (m:Ah)(hm:NK m):∀ o∈Fq,UR m o:=by
 have fact:∀ (s:Æ) (k:Int),k=0∨k=1∨k=2∨k=3∨k=4->UR m ⟨4,s,[4],2,.k k⟩:=fun s k g=>op1 m fun a c=>by
  refine⟨?_,to2 (Aa3 hm _ _)⟩
  show Ev (fun n=>(gi [a] 0).bind fun x1=>(CD n m (À (k+1)) x1).bind fun f=>some f) (Nd m (k+1) a)
  rw [BF (by omega) (by omega)]
  show Ev (fun n=>(CD n m (k+1) a).bind fun f=>some f) (Nd m (k+1) a)
  exact Ev.bind (Ad7 m (k+1) a hm.len) Ev.pure
 unfold Fq
 simp only [List.forall_mem_cons,Ĝ,false_imp_iff,implies_true,and_true]
 refine⟨?_,?_,?_,?_,?_,?_,?_,?_,?_,?_,?_,?_,fact _ _ (by simp),fact _ _ (by simp),fact _ _ (by simp),fact _ _ (by simp),fact _ _ (by simp)⟩
 . refine op1 m fun a c=>?_
   have:=ZN c
   refine⟨Ev.const ?_,to1 (by show _<=-a/\-a<=_;omega)⟩
   show some (À (0-a))=some (-a)
   rw [BF (by omega) (by omega)];congr 1;omega
 . refine op2 m fun a b c hb=>⟨Ev.const ?_,Pn _⟩
   show (DG a b).bind _=_
   rw [ZX a b (ZN c) (ZN hb)];rfl
 . refine op2 m fun a b c hb=>⟨Ev.const ?_,Pn _⟩
   have:=ZN c
   have:=ZN hb
   show (Dj (À (a+b))).bind _=_
   rw [BF (by omega) (by omega),SW];rfl
 . refine op2 m fun a b c hb=>⟨Ev.const ?_,VE _ (in2 c)⟩
   have:=ZN hb
   show (DH a b).bind _=_
   rw [VD (by omega) (in2 c)];rfl
 . refine op2 m fun a b c hb=>⟨Ev.const ?_,Pn _⟩
   have:=ZN c
   have:=ZN hb
   show (Dj (À (a-b))).bind _=_
   rw [BF (by omega) (by omega),SW];rfl
 . refine op2 m fun a b c hb=>⟨Ev.const ?_,VE _ (in2 c)⟩
   have:=ZN hb
   show (DH a (À (0-b))).bind _=_
   rw [BF (by omega) (by omega),VD (by omega) (in2 c),show (0:Int)-b = -b by omega];rfl
 . refine op2 m fun a b c hb=>?_
   have:=in2 c
   have:=in2 hb
   refine⟨Ev.const ?_,to1 (by show _<=a-b/\a-b<=_;omega)⟩
   show some (À (a-b))=some (a-b)
   rw [BF (by omega) (by omega)]
 . refine op1 m fun a c=>?_
   have:=Yw c
   refine⟨Ev.const ?_,to3 (by show _<=1-a/\1-a<=_;omega)⟩
   show some (À (1-a))=some (1-a)
   rw [BF (by omega) (by omega)]
 . refine op2 m fun a b c hb=>?_
   have d:a=0∨a=1:=by have:=Yw c;omega
   have e:b=0∨b=1:=by have:=Yw hb;omega
   refine⟨Ev.const ?_,?_⟩
   . show some (bits .and .i64 a b)=some (a*b)
     rw [(Aey (Yw c) (Yw hb)).1]
   . show II 3 (a*b)
     rcases d with rfl|rfl<;>rcases e with rfl|rfl<;>decide
 . refine op2 m fun a b c hb=>?_
   have d:a=0∨a=1:=by have:=Yw c;omega
   have e:b=0∨b=1:=by have:=Yw hb;omega
   refine⟨Ev.const ?_,?_⟩
   . show some (bits .or .i64 a b)=some (max a b)
     rw [(Aey (Yw c) (Yw hb)).2]
   . show II 3 (max a b)
     rcases d with rfl|rfl<;>rcases e with rfl|rfl<;>decide
 . refine op1 m fun a c=>⟨Ev.const ?_,Tt _⟩
   show (Ga a).bind _=_
   rw [Abx];rfl
 . refine op1 m fun a c=>⟨Ev.const ?_,ZE _⟩
   show some (if (if 1000<a then 1000 else a) > 0 then (if 1000<a then 1000 else a) else 0)=some (NI a)
   unfold NI
   congr 1
   repeat' split
   all_goals omega
theorem Afh (m:Ah)(i:Nat):∀ o∈Hd i,UR m o:=by
 have cmp:∀ (op t:Int) (f:Nat),f=100∨f=101∨f=102∨f=103∨f=104∨f=105->UR m ⟨op,⟨#[]⟩,[t,t],3,.is f⟩:=fun op t f d=>op2 m fun a b _ _=>by
  rcases d with rfl|rfl|rfl|rfl|rfl|rfl<;>exact⟨Ev.const (Abi _),Ad2 _⟩
 intro o c
 unfold Hd at c
 split at c
 . rename_i op f e
   have d:f=100∨f=101∨f=102∨f=103∨f=104∨f=105:=by
    grind [opk,List.mem_of_getElem?]
   unfold Jq at c
   split at c<;>simp at c
   . rcases c with rfl|rfl|rfl<;>exact cmp _ _ _ d
   . rcases c with rfl|rfl<;>exact cmp _ _ _ d
 . simp at c
theorem Adi (m:Ah):∀ o∈MV,UR m o:=by
 have ite:∀ t:Int,UR m ⟨20,⟨#[]⟩,[3,t,t],t,.c 108⟩:=fun t=>op3 m fun a b c d hb f=>by
  have g:a=0∨a=1:=by have:=Yw d;omega
  rcases g with rfl|rfl
  . exact⟨Ev.const rfl,f⟩
  . exact⟨Ev.const rfl,hb⟩
 have mn:∀ t:Int,UR m ⟨4,⟨#[109,105,110]⟩,[t,t],t,.c 109⟩:=fun t=>op2 m fun a b d hb=>by
  have e:Sy m (.c 109) [a,b]=min a b:=rfl
  rw [e]
  refine⟨Ev.const ?_,?_⟩
  . show some (if b<a then b else a)=some (min a b)
    congr 1
    split<;>omega
  . grind [MV]
 have mx:∀ t:Int,UR m ⟨4,⟨#[109,97,120]⟩,[t,t],t,.c 110⟩:=fun t=>op2 m fun a b d hb=>by
  have e:Sy m (.c 110) [a,b]=max a b:=rfl
  rw [e]
  refine⟨Ev.const ?_,?_⟩
  . show some (if b > a then b else a)=some (max a b)
    congr 1
    split<;>omega
  . grind [MV]
 unfold MV
 simp only [List.forall_mem_cons,Ĝ,false_imp_iff,implies_true,and_true]
 exact⟨ite 1,mn 1,mx 1,ite 2,mn 2,mx 2,ite 3,ite 4⟩
theorem Afe (m:Ah)(hm:NK m)(os:List Nat):∀ o∈opsOf os,UR m o:=by
 grind [opsOf,Adj,Afh,Adi]
theorem Tw {p x:Int}(h:x≠0):¬ (Wz p x).2.2.E=0:=h
theorem Ox {op num at0:Int}{str:Æ}{kids:List Af}(h:(AI (.mk op num str kids at0)).2.2.E=0) :
 ∃ ts,Cc kids=.inl ts/\((op=1/\0<=num/\num<=999999999999999/\kids=[]/\AI (.mk op num str kids at0)=(1,op0,⟨0,0⟩))
  ∨ (op=3/\(B1 BX str).2=true/\kids=[]/\AI (.mk op num str kids at0)=((B1 BX str).1,op0,⟨0,0⟩))
  ∨ (op≠1/\op≠3/\∃ o,o∈D4/\pick op str ts D4=some o/\o.args=ts/\AI (.mk op num str kids at0)=(o.kind,o,⟨0,0⟩))):=by
 rw [AI] at h ⊢
 by_cases c:op<1∨20<op∨(0<=arity op/\(kids.length:Int)≠arity op)
 . rw [È c] at h;exact absurd h (Tw (by decide))
 rw [Ä c] at h ⊢
 cases g:Cc kids with
 |inr o =>
  rw [g] at h
  exfalso
  have key:∀ (l:List Af) (o:Int×Ac×Am),Cc l=.inr o->o.2.2.E≠0:=by
   intro l
   induction l with
   |nil=>intro o h;cases h
   |cons e l ih =>
    intro o h
    rw [Cc] at h
    split at h
    . rename_i a;cases h;exact a
    . split at h
      . cases h
      . rename_i d;cases h;exact ih _ d
  exact key _ _ g h
 |inl ts =>
  refine⟨ts,rfl,?_⟩
  rw [g] at h
  simp only at h ⊢
  have a1:arity op=0->kids=[]:=fun k=>by
   grind [arity,List.length_eq_zero_iff]
  by_cases a:op=1
  . rw [È a] at h ⊢
    split at h
    . exact absurd h (Tw (by decide))
    . rename_i d
      rw [Ä d]
      exact .inl ⟨a,by omega,by omega,a1 (by subst a;rfl),rfl⟩
  rw [Ä a] at h ⊢
  by_cases d:op=2
  . rw [È d] at h;exact absurd h (Tw (by decide))
  rw [Ä d] at h ⊢
  by_cases f:op=3
  . rw [È f] at h ⊢
    split at h
    . rename_i i
      rw [È i]
      exact .inr (.inl ⟨f,i,a1 (by subst f;rfl),rfl⟩)
    . exact absurd h (Tw (by decide))
  rw [Ä f] at h ⊢
  refine .inr (.inr ⟨a,f,?_⟩)
  unfold AY at h ⊢
  cases j:pick op str ts D4 with
  |some o =>
   have b:=j
   unfold pick at b
   have m1:=List.mem_of_find?_eq_some b
   have m2:=List.find?_some b
   rw [Å,Ï] at m2
   exact⟨o,m1,rfl,m2.2,rfl⟩
  |none =>
   rw [j] at h
   simp only at h
   split at h
   . exact absurd h (Tw (by decide))
   . split at h<;>exact absurd h (Tw (by decide))
mutual
def HD (m:Ah):Af->Int
 |.mk op n s kids p =>
  if op=1 then n
  else if op=3 then (B1 [(⟨#[121,101,97,114]⟩,365),(⟨#[115,116,111,114,101,100]⟩,m.d.Stored),(⟨#[110,101,118,101,114]⟩,41667),(⟨#[111,119,110,101,114]⟩,m.d.Owner)] s).1
  else Sy m (AI (.mk op n s kids p)).2.1.do_ (Mp m kids)
def Mp (m:Ah):List Af->List Int
 | []=>[]
 |e::l=>HD m e::Mp m l
end
theorem Adl (m:Ah)(hm:NK m)(s:Æ)(h:(B1 BX s).2=true) :
 II (B1 BX s).1 (B1 [(⟨#[121,101,97,114]⟩,365),(⟨#[115,116,111,114,101,100]⟩,m.d.Stored),(⟨#[110,101,118,101,114]⟩,41667),(⟨#[111,119,110,101,114]⟩,m.d.Owner)] s).1:=by
 have a:=hm.st
 have b:=hm.ow
 all_goals grind [BX,B1,to1,to2,to4]
theorem Aa9 {m:Ah}{d:Do}{xs:List Int}{v:Int}(h:Ev (fun n=>HA n d m xs) v):gfn d=some d:=by
 obtain⟨n,h⟩:=h.get
 cases d with
 |nil=>cases h
 |_=>rfl
theorem Ve (s:Bp)(m:Ah)(e:Af)(hk:e.Kids.length<=1000000)(hf:∀ x∈e.Kids,Ev (fun n=>A5 n s x m) (HD m x)) :
 ∀ (r:List Af) (k:Nat) (vs:List Int),e.Kids.drop k=r->k<=e.Kids.length->vs.length=k->Ev (fun n=>Bg n e s m vs (k:Int)) (vs++Mp m r)
 | [],k,vs,hr,hkl,_=>by
  have he:=Hh hr hkl
  refine Ev.step (f:=fun n=>some vs) (fun n=>?_) ?_
  . rw [Bg.eq_2,show (decide ((k:Int)<(e.Kids.length:Int)))=false by rw [Ò];omega];rfl
  . rw [Mp,ă];exact Ev.pure
 |x::r,k,vs,hr,hkl,hvs=>by
  obtain⟨h1,h2⟩:=DM hr
  have hmem:x∈e.Kids:=á (by rw [hr];simp)
  refine Ev.step (f:=fun n=>(A5 n s x m).bind fun v=>Bg n e s m (vs++[v]) ((k+1:Nat):Int)) (fun n=>?_) ?_
  . rw [Bg.eq_2,Mf h2,Î,L2 hr,Á]
    congr 1
    funext v
    rw [Á,Y2 (by omega) (by simp),Á,L3 (by omega)]
  . refine Ev.bind (hf x hmem) ?_
    have ih:=Ve s m e hk hf r (k+1) (vs++[HD m x]) h1 (by omega) (by simp [hvs])
    rw [Mp]
    simpa [ð] using ih
def Ae1 (os:List Nat)(m:Ah)(e:Af):Prop:=Ev (fun n=>A5 n ⟨opsOf os,BX⟩ e m) (HD m e)/\II (AI e).1 (HD m e)
theorem WH {os:List Nat}(ho:Ord os)(m:Ah)(hm:NK m)(op num at0:Int)(str:Æ)(kids:List Af)(hs:CY (.mk op num str kids at0)=true)(ht:(AI (.mk op num str kids at0)).2.2.E=0)
 (hkids:∀ ts,Cc kids=.inl ts->PY ts (Mp m kids)/\∀ x∈kids,Ev (fun n=>A5 n ⟨opsOf os,BX⟩ x m) (HD m x)):Ae1 os m (.mk op num str kids at0):=by
 have a:=Uu ho _ hs
 have e:=hs
 rw [CY,Å,Ï] at e
 obtain⟨ts,k,l⟩:=Ox ht
 obtain⟨k1,k2⟩:=hkids ts k
 rcases l with⟨rfl,n1,n2,_,b⟩|⟨rfl,n1,_,b⟩|⟨c1,c3,o,g,p,i,b⟩
 . refine⟨?_,?_⟩
   . refine Ev.step (f:=fun n=>some num) (fun n=>?_) ?_
     . rw [A5.eq_2];rfl
     . rw [HD,È rfl];exact Ev.pure
   . rw [b,HD,È rfl];exact to1 ⟨by omega,n2⟩
 . refine⟨?_,?_⟩
   . refine Ev.step (f:=fun n=>some (HD m (.mk 3 num str kids at0))) (fun n=>?_) Ev.pure
     rw [A5.eq_2,HD,Ä (by decide),È rfl];rfl
   . rw [b,HD,Ä (by decide),È rfl];exact Adl m hm str n1
 . have c:=Afe m hm _ o g (Mp m kids) (by rw [i];exact k1)
   have j:HD m (.mk op num str kids at0)=Sy m o.do_ (Mp m kids):=by rw [HD,Ä c1,Ä c3,b]
   refine⟨?_,?_⟩
   . have loop:=Ve ⟨opsOf os,BX⟩ m (.mk op num str kids at0) e.1 k2 kids 0 [] rfl (ò _) rfl
     refine Ev.step (f:=fun n=>(Bg n (.mk op num str kids at0) ⟨opsOf os,BX⟩ m [] 0).bind fun x=>(A6 n ⟨opsOf os,BX⟩ (.mk op num str kids at0)).bind fun f=>(gfn f.2.1.do_).bind fun d=>(HA n d m x).bind fun r1=>some r1) (fun n=>?_) ?_
     . grind [A5.eq_2]
     . refine Ev.bind loop (Ev.bind a ?_)
       rw [b,j]
       simp only [ê,Aa9 c.1,Á]
       exact Ev.bind c.1 Ev.pure
   . rw [b,j];exact c.2
mutual
theorem QB {os:List Nat}(ho:Ord os)(m:Ah)(hm:NK m):∀ (e:Af),CY e=true->(AI e).2.2.E=0->Ae1 os m e
 |.mk op num str kids at0,hs,ht=>by
  refine WH ho m hm op num at0 str kids hs ht fun ts hts=>?_
  rw [CY,Å] at hs
  exact ON ho m hm kids ts hs.2 hts
theorem ON {os:List Nat}(ho:Ord os)(m:Ah)(hm:NK m):∀ (l:List Af) (ts:List Int),Gx l=true->Cc l=.inl ts->PY ts (Mp m l)/\∀ x∈l,Ev (fun n=>A5 n ⟨opsOf os,BX⟩ x m) (HD m x)
 | [],ts,_,ht=>by
  rw [Cc] at ht
  cases ht
  exact⟨trivial,fun x hx=>by simp at hx⟩
 |e::l,ts,hs,ht=>by
  rw [Gx,Å] at hs
  rw [Cc] at ht
  by_cases c:(AI e).2.2.E=0
  . rw [Ä (by simpa using c)] at ht
    cases ht2:Cc l with
    |inr o=>rw [ht2] at ht;cases ht
    |inl us =>
     rw [ht2] at ht
     cases ht
     obtain⟨g1,g2⟩:=QB ho m hm e hs.1 c
     obtain⟨r1,r2⟩:=ON ho m hm l us hs.2 ht2
     refine⟨⟨g2,r1⟩,fun x hx=>?_⟩
     rcases List.mem_cons.1 hx with hx|hx
     . rw [hx];exact g1
     . exact r2 x hx
  . rw [È c] at ht;cases ht
end
def TC (e:Af)(m:Ah):Option Int:=if CY e=true/\(AI e).2.2.E=0/\Da m.d m.known=0 then some (HD m e) else none
end Go.Sp
namespace Go.Sp
open Go Go.Vl
set_option linter.unusedVariables false
structure Aa where
 Name:Æ
 Kind:Int
 Rank:Int
 Known:Int
 From:Af
 To:Af
 When:Af
 Houses:Int
def B0 (x:Aa):List PV:=[tP x.Name,iP x.Kind,iP x.Rank,iP x.Known,iP x.From.Op,iP x.From.N,tP x.From.S,hP x.From.Kids Bd,iP x.From.At,iP x.To.Op,iP x.To.N,tP x.To.S,hP x.To.Kids Bd,iP x.To.At,iP x.When.Op,iP x.When.N,tP x.When.S,hP x.When.Kids Bd,iP x.When.At,iP x.Houses]
theorem Hs (x:Aa):B0 x=[tP x.Name,iP x.Kind,iP x.Rank,iP x.Known,iP x.From.Op,iP x.From.N,tP x.From.S,hP x.From.Kids Bd,iP x.From.At,iP x.To.Op,iP x.To.N,tP x.To.S,hP x.To.Kids Bd,iP x.To.At,iP x.When.Op,iP x.When.N,tP x.When.S,hP x.When.Kids Bd,iP x.When.At,iP x.Houses]:=rfl
theorem GR (x:Aa):(B0 x).length=20:=rfl
def As:Rw Aa:=⟨B0,_,20,Hs,GR⟩
structure CO where
 T:Int
 P:Am
structure Fy where
 From:Int
 To:Int
 Is:Bool
 E:Int
def JO (x:Int):List PV:=[uP x]
theorem Za (x:Int):JO x=[uP x]:=rfl
theorem WW (x:Int):(JO x).length=1:=rfl
def Py:Rw Int:=⟨JO,_,1,Za,WW⟩
def B7:Nat->Ai->Int->Option (Unit ⊕ Int)
 |0,_,_=>none
 |n+1,d,v14 =>
  bif (decide (v14<(d.Facts.length:Int))) then
   (gi d.Facts v14).bind fun x =>
   ((bif (decide (x.Kind<1)) then
    some true
   else
    bif (decide (5<x.Kind)) then
     some true
    else
     bif (decide (x.Who<1)) then
      some true
     else
      bif (decide (1000<x.Who)) then
       some true
      else
       bif (decide (x.Day<0)) then
        some true
       else
        bif (decide (41666<x.Day)) then
         some true
        else
         bif (decide (x.Known<0)) then
          some true
         else
          some (decide (41666<x.Known))
   ):Option Bool).bind fun v55 =>
    bif v55 then
     some (.inr 1)
    else
     B7 n d (À (v14+1))
  else
   some (.inl ())
def DI (n:Nat)(d:Ai)(known:Int):Option Int :=
 bif (decide (200<(d.Facts.length:Int))) then
  some 2
 else
  ((B7 n d 0
  ):Option (Unit ⊕ Int)).bind fun y=>match y with
  |.inl _ =>
   ((bif (decide (d.Stored<0)) then
    some true
   else
    bif (decide (41666<d.Stored)) then
     some true
    else
     bif (decide (known<0)) then
      some true
     else
      bif (decide (41666<known)) then
       some true
      else
       bif (decide (d.Owner<0)) then
        some true
       else
        some (decide (1000<d.Owner))
   ):Option Bool).bind fun v82 =>
    bif v82 then
     some 1
    else
     some 0
  |.inr o=>some o
def EH (c:Int):Option Bool :=
 ((bif (decide (97<=c)) then
  bif (decide (c<=122)) then
   some false
  else
   bif (decide (65<=c)) then
    bif (decide (c<=90)) then
     some false
    else
     bif (c == 95) then
      some false
     else
      bif (decide (48<=c)) then
       some (!(decide (c<=57)))
      else
       some true
   else
    bif (c == 95) then
     some false
    else
     bif (decide (48<=c)) then
      some (!(decide (c<=57)))
     else
      some true
 else
  bif (decide (65<=c)) then
   bif (decide (c<=90)) then
    some false
   else
    bif (c == 95) then
     some false
    else
     bif (decide (48<=c)) then
      some (!(decide (c<=57)))
     else
      some true
  else
   bif (c == 95) then
    some false
   else
    bif (decide (48<=c)) then
     some (!(decide (c<=57)))
    else
     some true
 ):Option Bool).bind fun v2 =>
  some v2
def AU:Nat->(List Int)->Int->Option (Unit ⊕ Int)
 |0,_,_=>none
 |n+1,s,v8 =>
  bif (decide (v8<(s.length:Int))) then
   (gi s v8).bind fun x =>
   (EH x).bind fun i =>
   bif i then
    some (.inr v8)
   else
    AU n s (À (v8+1))
  else
   some (.inl ())
def Dw (n:Nat)(s:(List Int)):Option Int :=
 ((AU n s 0
 ):Option (Unit ⊕ Int)).bind fun y=>match y with
 |.inl _ =>
  some (-1)
 |.inr o=>some o
def Cn (n:Nat)(s:(List Int)):Option Bool :=
 (Dw n s).bind fun i =>
 some (decide (0<=i))
def FZ (n:Nat)(s:Æ):Option Bool :=
 ((bif (decide (s=⟨#[]⟩)) then
  some true
 else
  bif (decide (32<(s.size:Int))) then
   some true
  else
   (gb s 0).bind fun c1 =>
   bif (decide (48<=c1)) then
    some (decide (c1<=57))
   else
    some false
 ):Option Bool).bind fun v19 =>
  bif v19 then
   some false
  else
   (R2 s).bind fun b =>
   (Cn n b).bind fun c =>
   some (!c)
def Fh (c:Æ)(c1:Int)(c2:Int)(c3:Int)(c4:Int)(c5:Int)(c6:Æ)(c7:(List Af))(c8:Int)(c9:Int)(c10:Int)(c11:Æ)(c12:(List Af))(c13:Int)(c14:Int)(c15:Int)(c16:Æ)(c17:(List Af))(c18:Int)(c19:Int)(x:Aa):Option Bool :=
 some (decide (x.Name=c))
def AJ:Nat->(List Aa)->Æ->Int->Int->Int->Int->Int->Æ->(List Af)->Int->Int->Int->Æ->(List Af)->Int->Int->Int->Æ->(List Af)->Int->Int->Int->Option (Unit ⊕ Int)
 |0,_,_,_,_,_,_,_,_,_,_,_,_,_,_,_,_,_,_,_,_,_,_=>none
 |n+1,s,c,c1,c2,c3,c4,c5,c6,c7,c8,c9,c10,c11,c12,c13,c14,c15,c16,c17,c18,c19,v8 =>
  bif (decide (v8<(s.length:Int))) then
   (gi s v8).bind fun x =>
   (Fh c c1 c2 c3 c4 c5 c6 c7 c8 c9 c10 c11 c12 c13 c14 c15 c16 c17 c18 c19 x).bind fun c20 =>
   bif c20 then
    some (.inr v8)
   else
    AJ n s c c1 c2 c3 c4 c5 c6 c7 c8 c9 c10 c11 c12 c13 c14 c15 c16 c17 c18 c19 (À (v8+1))
  else
   some (.inl ())
def CR (n:Nat)(c:Æ)(c1:Int)(c2:Int)(c3:Int)(c4:Int)(c5:Int)(c6:Æ)(c7:(List Af))(c8:Int)(c9:Int)(c10:Int)(c11:Æ)(c12:(List Af))(c13:Int)(c14:Int)(c15:Int)(c16:Æ)(c17:(List Af))(c18:Int)(c19:Int)(s:(List Aa)):Option Int :=
 ((AJ n s c c1 c2 c3 c4 c5 c6 c7 c8 c9 c10 c11 c12 c13 c14 c15 c16 c17 c18 c19 0
 ):Option (Unit ⊕ Int)).bind fun y=>match y with
 |.inl _ =>
  some (-1)
 |.inr o=>some o
def BN (n:Nat)(c:Æ)(c1:Int)(c2:Int)(c3:Int)(c4:Int)(c5:Int)(c6:Æ)(c7:(List Af))(c8:Int)(c9:Int)(c10:Int)(c11:Æ)(c12:(List Af))(c13:Int)(c14:Int)(c15:Int)(c16:Æ)(c17:(List Af))(c18:Int)(c19:Int)(s:(List Aa)):Option Bool :=
 (CR n c c1 c2 c3 c4 c5 c6 c7 c8 c9 c10 c11 c12 c13 c14 c15 c16 c17 c18 c19 s).bind fun c20 =>
 some (decide (0<=c20))
def Gp (c:Æ)(c1:Int)(c2:Int)(c3:Int)(c4:Int)(c5:Int)(c6:Æ)(c7:(List Af))(c8:Int)(c9:Int)(c10:Int)(c11:Æ)(c12:(List Af))(c13:Int)(c14:Int)(c15:Int)(c16:Æ)(c17:(List Af))(c18:Int)(c19:Int):Option Unit :=
 some ()
def AB:Nat->Aa->Int->Option (Unit ⊕ Int)
 |0,_,_=>none
 |n+1,x,v94 =>
  bif (v94 == 0) then
   (Mn x.From).bind fun f2 =>
   bif (f2.2.2.E != 0) then
    some (.inr f2.2.2.E)
   else
    bif (f2.1 != 2) then
     some (.inr 7)
    else
     AB n x 1
  else
   bif (v94 == 1) then
    (Mn x.To).bind fun f1 =>
    bif (f1.2.2.E != 0) then
     some (.inr f1.2.2.E)
    else
     bif (f1.1 != 2) then
      some (.inr 7)
     else
      AB n x 2
   else
    bif (v94 == 2) then
     (Mn x.When).bind fun f =>
     bif (f.2.2.E != 0) then
      some (.inr f.2.2.E)
     else
      bif (f.1 != 3) then
       some (.inr 7)
      else
       AB n x 3
    else
     bif (v94 == 3) then
      some (.inl ())
     else
      none
def CX:Nat->(List Aa)->Int->Option (Unit ⊕ Int)
 |0,_,_=>none
 |n+1,l,v20 =>
  bif (decide (v20<(l.length:Int))) then
   (gi l v20).bind fun x =>
   (FZ n x.Name).bind fun i =>
   bif (!i) then
    some (.inr 6)
   else
    (gsl l 0 v20).bind fun l1 =>
    (BN n x.Name x.Kind x.Rank x.Known x.From.Op x.From.N x.From.S x.From.Kids x.From.At x.To.Op x.To.N x.To.S x.To.Kids x.To.At x.When.Op x.When.N x.When.S x.When.Kids x.When.At x.Houses l1).bind fun c =>
    bif c then
     some (.inr 9)
    else
     ((bif (decide (x.Kind<1)) then
      some true
     else
      some (decide (3<x.Kind))
     ):Option Bool).bind fun v39 =>
      bif v39 then
       some (.inr 1)
      else
       ((bif (decide (x.Rank<0)) then
        some true
       else
        bif (decide (9<x.Rank)) then
         some true
        else
         bif (decide (x.Known<0)) then
          some true
         else
          bif (decide (41666<x.Known)) then
           some true
          else
           bif (!(x.Kind == 3)) then
            bif (x.Houses != 0) then
             some true
            else
             bif (x.Kind == 3) then
              bif (decide (x.Houses<1)) then
               some true
              else
               some (decide (4096<=x.Houses))
             else
              some false
           else
            bif (x.Kind == 3) then
             bif (decide (x.Houses<1)) then
              some true
             else
              some (decide (4096<=x.Houses))
            else
             some false
       ):Option Bool).bind fun v48 =>
        bif v48 then
         some (.inr 3)
        else
         (Gp x.Name x.Kind x.Rank x.Known x.From.Op x.From.N x.From.S x.From.Kids x.From.At x.To.Op x.To.N x.To.S x.To.Kids x.To.At x.When.Op x.When.N x.When.S x.When.Kids x.When.At x.Houses).bind fun w =>
         ((AB n x 0
         ):Option (Unit ⊕ Int)).bind fun y3=>match y3 with
         |.inl _ =>
          CX n l (À (v20+1))
         |.inr o=>some (.inr o)
  else
   some (.inl ())
def Fw (n:Nat)(l:(List Aa)):Option Int :=
 bif (decide (40<(l.length:Int))) then
  some 2
 else
  (some ()).bind fun u =>
  ((CX n l 0
  ):Option (Unit ⊕ Int)).bind fun y=>match y with
  |.inl _ =>
   some 0
  |.inr o=>some o
def Eu (n:Nat)(c:Aa)(d:Ai)(known:Int):Option (Int×Int×Bool×Int) :=
 (some [c]).bind fun l =>
 (Fw n l).bind fun e =>
 bif (e != 0) then
  some (0,0,false,e)
 else
  (DI n d known).bind fun e1 =>
  bif (e1 != 0) then
   some (0,0,false,e1)
  else
   (some ()).bind fun u =>
   (((TC c.From (Ah.mk d known)).bind fun from_1 =>
   (TC c.To (Ah.mk d known)).bind fun to_1 =>
   bif (decide (c.Known<=known)) then
    (TC c.When (Ah.mk d known)).bind fun v_ =>
    some (from_1,to_1,(v_ == 1))
   else
    some (from_1,to_1,false)
   ):Option (Int×Int×Bool)).bind fun y=>match y with
   |(from_,to_,applies) =>
    some (from_,to_,applies,0)
def JM:Option (ByteArray×ByteArray×ByteArray×ByteArray) :=
 some (⟨#[]⟩,⟨#[107,101,101,112]⟩,⟨#[100,114,111,112]⟩,⟨#[112,108,97,99,101]⟩)
def Fj:Nat->(List Æ)->Æ->Int->Option (Unit ⊕ Int)
 |0,_,_,_=>none
 |n+1,s,v_,v8 =>
  bif (decide (v8<(s.length:Int))) then
   (gi s v8).bind fun x =>
   bif (decide (v_=x)) then
    some (.inr v8)
   else
    Fj n s v_ (À (v8+1))
  else
   some (.inl ())
def Iz (n:Nat)(s:(List Æ))(v_:Æ):Option Int :=
 ((Fj n s v_ 0
 ):Option (Unit ⊕ Int)).bind fun y=>match y with
 |.inl _ =>
  some (-1)
 |.inr o=>some o
def FI:Nat->Ax->(List Int)->Int->Option (Unit ⊕ (Int×Bool))
 |0,_,_,_=>none
 |n+1,f,want,v52 =>
  bif (decide (v52<(f.Args.length:Int))) then
   (gi f.Args v52).bind fun x =>
   (gi want (if (À ((want.length:Int)-1))<v52 then (À ((want.length:Int)-1)) else v52)).bind fun x1 =>
   bif (x.Kind != x1) then
    some (.inr (0,false))
   else
    FI n f want (À (v52+1))
  else
   some (.inl ())
def Jf (n:Nat)(f:Ax):Option (Int×Bool) :=
 (JM).bind fun l =>
 (Iz n [l.2.1,l.2.2.1,l.2.2.2] f.Word).bind fun i =>
 (some [1,2,2,5,5,5]).bind fun l1 =>
 ((bif ((À (i+1)) == 3) then
  (some [4,2]).bind fun l2 =>
  (CC 8 l1 l2).bind fun l3 =>
  some l3
 else
  some l1
 ):Option (List Int)).bind fun want =>
  ((bif ((À (i+1)) == 0) then
   some true
  else
   bif (decide (0<(f.Body.length:Int))) then
    some true
   else
    bif (decide ((f.Args.length:Int)<(want.length:Int))) then
     some true
    else
     bif ((À (i+1)) != 3) then
      some (decide ((want.length:Int)<(f.Args.length:Int)))
     else
      some false
  ):Option Bool).bind fun v48 =>
   bif v48 then
    some (0,false)
   else
    ((FI n f want 0
    ):Option (Unit ⊕ (Int×Bool))).bind fun y2=>match y2 with
    |.inl _ =>
     some ((À (i+1)),true)
    |.inr o=>some o
def FD (q:Int)(q1:Int)(p:Int)(p1:Int)(f:Æ)(f1:(List B6))(f2:(List Ax))(f3:Int)(c:Aa):Option Bool :=
 (gi f1 0).bind fun x =>
 some (decide (c.Name=x.S))
def Cq:Nat->(List Aa)->Int->Int->Int->Int->Æ->(List B6)->(List Ax)->Int->Int->Option (Unit ⊕ Int)
 |0,_,_,_,_,_,_,_,_,_,_=>none
 |n+1,s,q,q1,p,p1,f,f1,f2,f3,v8 =>
  bif (decide (v8<(s.length:Int))) then
   (gi s v8).bind fun x =>
   (FD q q1 p p1 f f1 f2 f3 x).bind fun c =>
   bif c then
    some (.inr v8)
   else
    Cq n s q q1 p p1 f f1 f2 f3 (À (v8+1))
  else
   some (.inl ())
def DV (n:Nat)(q:Int)(q1:Int)(p:Int)(p1:Int)(f:Æ)(f1:(List B6))(f2:(List Ax))(f3:Int)(s:(List Aa)):Option Int :=
 ((Cq n s q q1 p p1 f f1 f2 f3 0
 ):Option (Unit ⊕ Int)).bind fun y=>match y with
 |.inl _ =>
  some (-1)
 |.inr o=>some o
def Dk (n:Nat)(q:Int)(q1:Int)(p:Int)(p1:Int)(f:Æ)(f1:(List B6))(f2:(List Ax))(f3:Int)(s:(List Aa)):Option Bool :=
 (DV n q q1 p p1 f f1 f2 f3 s).bind fun c =>
 some (decide (0<=c))
def Hp (q:Int)(q1:Int)(p:Int)(p1:Int)(f:Æ)(f1:(List B6))(f2:(List Ax))(f3:Int)(c:Æ)(c1:Int)(c2:Int)(c3:Int)(c4:Int)(c5:Int)(c6:Æ)(c7:(List Af))(c8:Int)(c9:Int)(c10:Int)(c11:Æ)(c12:(List Af))(c13:Int)(c14:Int)(c15:Int)(c16:Æ)(c17:(List Af))(c18:Int)(c19:Int):Option Unit :=
 some ()
def CW:Nat->B6->B6->B6->Int->Option (Unit ⊕ ((List Aa)×Am))
 |0,_,_,_,_=>none
 |n+1,x5,x6,x7,v170 =>
  bif (v170 == 0) then
   (Mn x5.E).bind fun f3 =>
   bif (f3.2.2.E != 0) then
    some (.inr ([],f3.2.2))
   else
    bif (f3.1 != 2) then
     some (.inr ([],(Am.mk x5.At 7)))
    else
     CW n x5 x6 x7 1
  else
   bif (v170 == 1) then
    (Mn x6.E).bind fun f2 =>
    bif (f2.2.2.E != 0) then
     some (.inr ([],f2.2.2))
    else
     bif (f2.1 != 2) then
      some (.inr ([],(Am.mk x6.At 7)))
     else
      CW n x5 x6 x7 2
   else
    bif (v170 == 2) then
     (Mn x7.E).bind fun f1 =>
     bif (f1.2.2.E != 0) then
      some (.inr ([],f1.2.2))
     else
      bif (f1.1 != 3) then
       some (.inr ([],(Am.mk x7.At 7)))
      else
       CW n x5 x6 x7 3
    else
     bif (v170 == 3) then
      some (.inl ())
     else
      none
def DU:Nat->Ax->Int->Int->Int->Option (Int ⊕ ((List Aa)×Am))
 |0,_,_,_,_=>none
 |n+1,x,v103,last,c2 =>
  bif (decide (v103<(x.Args.length:Int))) then
   (gi x.Args v103).bind fun x8 =>
   ((bif (v103 == 1) then
    bif (decide (x8.N<0)) then
     some true
    else
     bif (decide (9<x8.N)) then
      some true
     else
      bif (v103 == 2) then
       bif (decide (x8.N<0)) then
        some true
       else
        bif (decide (41666<x8.N)) then
         some true
        else
         bif (decide (6<v103)) then
          bif (decide (x8.N<=last)) then
           some true
          else
           some (decide (12<=x8.N))
         else
          some false
      else
       bif (decide (6<v103)) then
        bif (decide (x8.N<=last)) then
         some true
        else
         some (decide (12<=x8.N))
       else
        some false
   else
    bif (v103 == 2) then
     bif (decide (x8.N<0)) then
      some true
     else
      bif (decide (41666<x8.N)) then
       some true
      else
       bif (decide (6<v103)) then
        bif (decide (x8.N<=last)) then
         some true
        else
         some (decide (12<=x8.N))
       else
        some false
    else
     bif (decide (6<v103)) then
      bif (decide (x8.N<=last)) then
       some true
      else
       some (decide (12<=x8.N))
     else
      some false
   ):Option Bool).bind fun odd =>
    bif odd then
     some (.inr ([],(Am.mk x8.At 3)))
    else
     bif (decide (6<v103)) then
      (gnn x8.N (À (1*2 ^ min x8.N.toNat IntKind.i64.bits))).bind fun q =>
      DU n x (À (v103+1)) x8.N (bits .or .i64 c2 q)
     else
      DU n x (À (v103+1)) last c2
  else
   some (.inl c2)
def Fg:Nat->((List Ax)×Am)->(List Aa)->Int->Option ((List Aa) ⊕ ((List Aa)×Am))
 |0,_,_,_=>none
 |n+1,f,out1,v36 =>
  bif (decide (v36<(f.1.length:Int))) then
   (gi f.1 v36).bind fun x =>
   (Jf n x).bind fun s =>
   bif (!s.2) then
    some (.inr ([],(Am.mk x.At 5)))
   else
    bif ((out1.length:Int) == 40) then
     some (.inr ([],(Am.mk x.At 2)))
    else
     (Dk n 0 0 f.2.At f.2.E x.Word x.Args x.Body x.At out1).bind fun c =>
     bif c then
      (gi x.Args 0).bind fun x1 =>
      some (.inr ([],(Am.mk x1.At 9)))
     else
      (gi x.Args 0).bind fun x2 =>
      (gi x.Args 1).bind fun x3 =>
      (gi x.Args 2).bind fun x4 =>
      (gi x.Args 3).bind fun x5 =>
      (gi x.Args 4).bind fun x6 =>
      (gi x.Args 5).bind fun x7 =>
      ((DU n x 0 (-1) 0
      ):Option (Int ⊕ ((List Aa)×Am))).bind fun y1=>match y1 with
      |.inl c1 =>
       (Hp 0 0 f.2.At f.2.E x.Word x.Args x.Body x.At x2.S s.1 x3.N x4.N x5.E.Op x5.E.N x5.E.S x5.E.Kids x5.E.At x6.E.Op x6.E.N x6.E.S x6.E.Kids x6.E.At x7.E.Op x7.E.N x7.E.S x7.E.Kids x7.E.At c1).bind fun w =>
       ((CW n x5 x6 x7 0
       ):Option (Unit ⊕ ((List Aa)×Am))).bind fun y2=>match y2 with
       |.inl _ =>
        (some [(Aa.mk x2.S s.1 x3.N x4.N x5.E x6.E x7.E c1)]).bind fun l =>
        (CC 240 out1 l).bind fun l1 =>
        Fg n f l1 (À (v36+1))
       |.inr o=>some (.inr o)
      |.inr o=>some (.inr o)
  else
   some (.inl out1)
def Ix (n:Nat)(src:Æ):Option ((List Aa)×Am) :=
 (Md n src).bind fun f =>
 bif (f.2.E != 0) then
  some ([],f.2)
 else
  (some ()).bind fun u =>
  ((Fg n f [] 0
  ):Option ((List Aa) ⊕ ((List Aa)×Am))).bind fun y=>match y with
  |.inl out =>
   some (out,(Am.mk 0 0))
  |.inr o=>some o
def EJ:Nat->Ai->Int->Option (Unit ⊕ Int)
 |0,_,_=>none
 |n+1,d,k =>
  bif (decide (k<(d.Facts.length:Int))) then
   (gi d.Facts k).bind fun x =>
   ((bif (decide (x.Kind<1)) then
    some true
   else
    bif (decide (5<x.Kind)) then
     some true
    else
     bif (decide (x.Who<1)) then
      some true
     else
      bif (decide (1000<x.Who)) then
       some true
      else
       bif (decide (x.Day<0)) then
        some true
       else
        bif (decide (41666<x.Day)) then
         some true
        else
         bif (decide (x.Known<0)) then
          some true
         else
          some (decide (41666<x.Known))
   ):Option Bool).bind fun v60 =>
    bif v60 then
     some (.inr 1)
    else
     EJ n d (À (k+1))
  else
   some (.inl ())
def Gg (n:Nat)(d:Ai)(known:Int):Option Int :=
 bif (decide (200<(d.Facts.length:Int))) then
  some 2
 else
  ((EJ n d 0
  ):Option (Unit ⊕ Int)).bind fun y=>match y with
  |.inl _ =>
   ((bif (decide (d.Stored<0)) then
    some true
   else
    bif (decide (41666<d.Stored)) then
     some true
    else
     bif (decide (known<0)) then
      some true
     else
      bif (decide (41666<known)) then
       some true
      else
       bif (decide (d.Owner<0)) then
        some true
       else
        some (decide (1000<d.Owner))
   ):Option Bool).bind fun v86 =>
    bif v86 then
     some 1
    else
     some 0
  |.inr o=>some o
def C2:Nat->Æ->Int->Option (Unit ⊕ Bool)
 |0,_,_=>none
 |n+1,s,k =>
  bif (decide (k<(s.size:Int))) then
   (gb s k).bind fun c =>
   ((bif (decide (97<=c)) then
    bif (decide (c<=122)) then
     some true
    else
     bif (decide (65<=c)) then
      bif (decide (c<=90)) then
       some true
      else
       some (c == 95)
     else
      some (c == 95)
   else
    bif (decide (65<=c)) then
     bif (decide (c<=90)) then
      some true
     else
      some (c == 95)
    else
     some (c == 95)
   ):Option Bool).bind fun letter =>
    ((bif (!letter) then
     bif (k == 0) then
      some true
     else
      bif (decide (c<48)) then
       some true
      else
       some (decide (57<c))
    else
     some false
    ):Option Bool).bind fun v54 =>
     bif v54 then
      some (.inr false)
     else
      C2 n s (À (k+1))
  else
   some (.inl ())
def Hw (n:Nat)(s:Æ):Option Bool :=
 ((bif (decide ((s.size:Int)<1)) then
  some true
 else
  some (decide (32<(s.size:Int)))
 ):Option Bool).bind fun v13 =>
  bif v13 then
   some false
  else
   ((C2 n s 0
   ):Option (Unit ⊕ Bool)).bind fun y1=>match y1 with
   |.inl _ =>
    some true
   |.inr o=>some o
def CE:Nat->(List Aa)->Æ->Int->Option (Unit ⊕ Bool)
 |0,_,_,_=>none
 |n+1,l,s,k =>
  bif (decide (k<(l.length:Int))) then
   (gi l k).bind fun x =>
   bif (decide (x.Name=s)) then
    some (.inr true)
   else
    CE n l s (À (k+1))
  else
   some (.inl ())
def Il (n:Nat)(l:(List Aa))(s:Æ):Option Bool :=
 ((CE n l s 0
 ):Option (Unit ⊕ Bool)).bind fun y=>match y with
 |.inl _ =>
  some false
 |.inr o=>some o
def HM (c:Aa)(k:Int):Option Af :=
 bif (k == 0) then
  some c.From
 else
  bif (k == 1) then
   some c.To
  else
   some c.When
def DX (op:Int):Option Int :=
 ((bif (decide (1<=op)) then
  some (decide (op<=3))
 else
  some false
 ):Option Bool).bind fun v8 =>
  bif v8 then
   some 0
  else
   bif (op == 4) then
    some (-1)
   else
    ((bif (op == 5) then
     some true
    else
     some (op == 6)
    ):Option Bool).bind fun v16 =>
     bif v16 then
      some 1
     else
      bif (op == 20) then
       some 3
      else
       some 2
def EU (name:Æ):Option Int :=
 bif (decide (name=⟨#[98,111,114,110]⟩)) then
  some 1
 else
  bif (decide (name=⟨#[100,105,101,100]⟩)) then
   some 2
  else
   bif (decide (name=⟨#[97,115,107,101,100]⟩)) then
    some 3
   else
    bif (decide (name=⟨#[104,101,108,100]⟩)) then
     some 4
    else
     bif (decide (name=⟨#[108,105,102,116,101,100]⟩)) then
      some 5
     else
      some 0
def DY (name:Æ)(t:(List Int)):Option (Int×Int) :=
 (EU name).bind fun f =>
 ((bif (decide (0<f)) then
  some true
 else
  bif (decide (name=⟨#[100,97,121]⟩)) then
   some true
  else
   some (decide (name=⟨#[112,101,114,115,111,110]⟩))
 ):Option Bool).bind fun one =>
  ((bif (decide (name=⟨#[109,105,110]⟩)) then
   some true
  else
   some (decide (name=⟨#[109,97,120]⟩))
  ):Option Bool).bind fun two =>
   ((bif (!one) then
    some (!two)
   else
    some false
   ):Option Bool).bind fun v32 =>
    bif v32 then
     some (0,6)
    else
     ((bif one then
      bif ((t.length:Int) != 1) then
       some true
      else
       bif two then
        some ((t.length:Int) != 2)
       else
        some false
     else
      bif two then
       some ((t.length:Int) != 2)
      else
       some false
     ):Option Bool).bind fun v46 =>
      bif v46 then
       some (0,1)
      else
       ((bif (decide (0<f)) then
        (gi t 0).bind fun x4 =>
        bif (x4 == 4) then
         some true
        else
         bif (decide (name=⟨#[100,97,121]⟩)) then
          some (x4 == 1)
         else
          some false
       else
        bif (decide (name=⟨#[100,97,121]⟩)) then
         (gi t 0).bind fun x5 =>
         some (x5 == 1)
        else
         some false
       ):Option Bool).bind fun v63 =>
        bif v63 then
         some (2,0)
        else
         ((bif (decide (name=⟨#[112,101,114,115,111,110]⟩)) then
          (gi t 0).bind fun x3 =>
          some (x3 == 1)
         else
          some false
         ):Option Bool).bind fun v71 =>
          bif v71 then
           some (4,0)
          else
           ((bif two then
            (gi t 0).bind fun x1 =>
            (gi t 1).bind fun x2 =>
            bif (x1 == x2) then
             some (decide (x1<=2))
            else
             some false
           else
            some false
           ):Option Bool).bind fun v87 =>
            bif v87 then
             (gi t 0).bind fun x =>
             some (x,0)
            else
             some (0,7)
def Hv (op:Int)(t:(List Int)):Option Int :=
 ((bif (op == 6) then
  (gi t 0).bind fun x21 =>
  some (x21 == 1)
 else
  some false
 ):Option Bool).bind fun v17 =>
  bif v17 then
   some 1
  else
   ((bif (op == 5) then
    (gi t 0).bind fun x20 =>
    some (x20 == 3)
   else
    some false
   ):Option Bool).bind fun v25 =>
    bif v25 then
     some 3
    else
     ((bif (op == 20) then
      (gi t 0).bind fun x17 =>
      bif (x17 == 3) then
       (gi t 1).bind fun x18 =>
       (gi t 2).bind fun x19 =>
       some (x18 == x19)
      else
       some false
     else
      some false
     ):Option Bool).bind fun v42 =>
      bif v42 then
       (gi t 1).bind fun x =>
       some x
      else
       bif ((t.length:Int) != 2) then
        some 0
       else
        (((gi t 0).bind fun x15 =>
        bif (x15 == 1) then
         (gi t 1).bind fun x16 =>
         some (x16 == 1)
        else
         some false
        ):Option Bool).bind fun numbers =>
         (((gi t 0).bind fun x13 =>
         bif (x13 == 2) then
          (gi t 1).bind fun x14 =>
          some (x14 == 2)
         else
          some false
         ):Option Bool).bind fun days =>
          ((bif (op == 7) then
           some numbers
          else
           bif (op == 10) then
            some numbers
           else
            bif (op == 11) then
             some numbers
            else
             some false
          ):Option Bool).bind fun v80 =>
           bif v80 then
            some 1
           else
            ((bif (op == 10) then
             (gi t 0).bind fun x9 =>
             bif (x9 == 2) then
              (gi t 1).bind fun x10 =>
              some (x10 == 1)
             else
              some false
            else
             bif (op == 11) then
              (gi t 0).bind fun x11 =>
              bif (x11 == 2) then
               (gi t 1).bind fun x12 =>
               some (x12 == 1)
              else
               some false
             else
              some false
            ):Option Bool).bind fun v98 =>
             bif v98 then
              some 2
             else
              ((bif (op == 11) then
               some days
              else
               some false
              ):Option Bool).bind fun v103 =>
               bif v103 then
                some 1
               else
                ((bif (decide (14<=op)) then
                 bif (decide (op<=17)) then
                  bif numbers then
                   some true
                  else
                   some days
                 else
                  some false
                else
                 some false
                ):Option Bool).bind fun v115 =>
                 bif v115 then
                  some 3
                 else
                  ((bif (op == 12) then
                   bif numbers then
                    some true
                   else
                    bif days then
                     some true
                    else
                     (gi t 0).bind fun x5 =>
                     bif (x5 == 4) then
                      (gi t 1).bind fun x6 =>
                      some (x6 == 4)
                     else
                      some false
                  else
                   bif (op == 13) then
                    bif numbers then
                     some true
                    else
                     bif days then
                      some true
                     else
                      (gi t 0).bind fun x7 =>
                      bif (x7 == 4) then
                       (gi t 1).bind fun x8 =>
                       some (x8 == 4)
                      else
                       some false
                   else
                    some false
                  ):Option Bool).bind fun v139 =>
                   bif v139 then
                    some 3
                   else
                    ((bif (op == 18) then
                     (gi t 0).bind fun x1 =>
                     bif (x1 == 3) then
                      (gi t 1).bind fun x2 =>
                      some (x2 == 3)
                     else
                      some false
                    else
                     bif (op == 19) then
                      (gi t 0).bind fun x3 =>
                      bif (x3 == 3) then
                       (gi t 1).bind fun x4 =>
                       some (x4 == 3)
                      else
                       some false
                     else
                      some false
                    ):Option Bool).bind fun v157 =>
                     bif v157 then
                      some 3
                     else
                      some 0
mutual
def DK:Nat->Af->(List Int)->Int->Option ((List Int) ⊕ CO)
 |0,_,_,_=>none
 |n+1,e,t1,k =>
  bif (decide (k<(e.Kids.length:Int))) then
   (gi e.Kids k).bind fun x =>
   (Bq n x).bind fun x1 =>
   bif (x1.P.E != 0) then
    some (.inr x1)
   else
    (some [x1.T]).bind fun l =>
    (CC 8 t1 l).bind fun l1 =>
    DK n e l1 (À (k+1))
  else
   some (.inl t1)
def Bq:Nat->Af->Option CO
 |0,_=>none
 |n+1,e =>
  (DX e.Op).bind fun n_ =>
  ((bif (decide (e.Op<1)) then
   some true
  else
   bif (decide (20<e.Op)) then
    some true
   else
    bif (decide (0<=n_)) then
     some ((e.Kids.length:Int) != n_)
    else
     some false
  ):Option Bool).bind fun v32 =>
   bif v32 then
    some (CO.mk 0 (Am.mk e.At 1))
   else
    ((DK n e [] 0
    ):Option ((List Int) ⊕ CO)).bind fun y1=>match y1 with
    |.inl t =>
     ((bif (e.Op == 1) then
      ((bif (decide (e.N<0)) then
       some true
      else
       some (decide (999999999999999<e.N))
      ):Option Bool).bind fun v75 =>
       bif v75 then
        some (0,1)
       else
        some (1,7)
     else
      bif (e.Op == 2) then
       some (0,7)
      else
       bif (e.Op == 3) then
        bif (decide (e.S=⟨#[121,101,97,114]⟩)) then
         some (1,7)
        else
         ((bif (decide (e.S=⟨#[115,116,111,114,101,100]⟩)) then
          some (decide (e.S=⟨#[115,116,111,114,101,100]⟩))
         else
          some (decide (e.S=⟨#[110,101,118,101,114]⟩))
         ):Option Bool).bind fun v84 =>
          bif v84 then
           some (2,7)
          else
           bif (decide (e.S=⟨#[111,119,110,101,114]⟩)) then
            some (4,7)
           else
            some (0,6)
       else
        bif (e.Op == 4) then
         (DY e.S t).bind fun c =>
         some (c.1,c.2)
        else
         (Hv e.Op t).bind fun out1 =>
         some (out1,7)
     ):Option (Int×Int)).bind fun y2=>match y2 with
     |(out,err) =>
      bif (out == 0) then
       some (CO.mk 0 (Am.mk e.At err))
      else
       some (CO.mk out (Am.mk 0 0))
    |.inr o=>some o
end
def BQ:Nat->Aa->Int->Option (Unit ⊕ Int)
 |0,_,_=>none
 |n+1,x,k =>
  bif (decide (k<3)) then
   (HM x k).bind fun p =>
   (Bq n p).bind fun t =>
   bif (t.P.E != 0) then
    some (.inr t.P.E)
   else
    ((bif (decide (k<2)) then
     bif (t.T != 2) then
      some true
     else
      bif (k == 2) then
       some (t.T != 3)
      else
       some false
    else
     bif (k == 2) then
      some (t.T != 3)
     else
      some false
    ):Option Bool).bind fun v115 =>
     bif v115 then
      some (.inr 7)
     else
      BQ n x (À (k+1))
  else
   some (.inl ())
def Ea:Nat->(List Aa)->Int->Option (Unit ⊕ Int)
 |0,_,_=>none
 |n+1,l,i =>
  bif (decide (i<(l.length:Int))) then
   (gi l i).bind fun x =>
   (Hw n x.Name).bind fun name =>
   bif (!name) then
    some (.inr 6)
   else
    (gsl l 0 i).bind fun l1 =>
    (Il n l1 x.Name).bind fun again =>
    bif again then
     some (.inr 9)
    else
     ((bif (decide (x.Kind<1)) then
      some true
     else
      some (decide (3<x.Kind))
     ):Option Bool).bind fun v41 =>
      bif v41 then
       some (.inr 1)
      else
       ((bif (decide (x.Rank<0)) then
        some true
       else
        bif (decide (9<x.Rank)) then
         some true
        else
         bif (decide (x.Known<0)) then
          some true
         else
          bif (decide (41666<x.Known)) then
           some true
          else
           bif (decide (x.Kind<3)) then
            bif (x.Houses != 0) then
             some true
            else
             bif (x.Kind == 3) then
              bif (decide (x.Houses<1)) then
               some true
              else
               some (decide (4095<x.Houses))
             else
              some false
           else
            bif (x.Kind == 3) then
             bif (decide (x.Houses<1)) then
              some true
             else
              some (decide (4095<x.Houses))
            else
             some false
       ):Option Bool).bind fun v84 =>
        bif v84 then
         some (.inr 3)
        else
         ((BQ n x 0
         ):Option (Unit ⊕ Int)).bind fun y3=>match y3 with
         |.inl _ =>
          Ea n l (À (i+1))
         |.inr o=>some (.inr o)
  else
   some (.inl ())
def Ha (n:Nat)(l:(List Aa)):Option Int :=
 bif (decide (40<(l.length:Int))) then
  some 2
 else
  ((Ea n l 0
  ):Option (Unit ⊕ Int)).bind fun y=>match y with
  |.inl _ =>
   some 0
  |.inr o=>some o
def Cu:Nat->Ai->Int->Int->Int->Int->Int->Int->Option Int
 |0,_,_,_,_,_,_,_=>none
 |n+1,d,kind,who,known,out1,best,k =>
  bif (decide (k<(d.Facts.length:Int))) then
   (gi d.Facts k).bind fun x =>
   ((bif (x.Kind == kind) then
    bif (x.Who == who) then
     bif (decide (x.Known<=known)) then
      some (decide (best<=x.Known))
     else
      some false
    else
     some false
   else
    some false
   ):Option Bool).bind fun v46 =>
    bif v46 then
     Cu n d kind who known x.Day x.Known (À (k+1))
    else
     Cu n d kind who known out1 best (À (k+1))
  else
   some out1
def DZ (n:Nat)(d:Ai)(known:Int)(kind:Int)(who:Int):Option Int :=
 ((Cu n d kind who known 41667 (-1) 0
 ):Option Int).bind fun out =>
  some out
def E8 (a_:Int)(b:Int):Option Int :=
 ((bif (a_ == 0) then
  some true
 else
  some (b == 0)
 ):Option Bool).bind fun v14 =>
  bif v14 then
   some 0
  else
   (gnz (if (À (0-b)) > b then (À (0-b)) else b) (À ((999999999999999:Int).tdiv (if (À (0-b)) > b then (À (0-b)) else b)))).bind fun q =>
   ((bif (decide ((if (À (0-a_)) > a_ then (À (0-a_)) else a_)<=q)) then
    some (À ((if (À (0-a_)) > a_ then (À (0-a_)) else a_)*(if (À (0-b)) > b then (À (0-b)) else b)))
   else
    some 999999999999999
   ):Option Int).bind fun n_ =>
    ((bif (decide (a_<0)) then
     bif (decide (0<b)) then
      some true
     else
      bif (decide (0<a_)) then
       some (decide (b<0))
      else
       some false
    else
     bif (decide (0<a_)) then
      some (decide (b<0))
     else
      some false
    ):Option Bool).bind fun v45 =>
     bif v45 then
      some (À (0-n_))
     else
      some n_
def ET (d:Int)(n_:Int):Option Int :=
 bif (d == 41667) then
  some d
 else
  some (if (if 41667<(À (d+n_)) then 41667 else (À (d+n_))) > 0 then (if 41667<(À (d+n_)) then 41667 else (À (d+n_))) else 0)
def DC (n_:Int):Option Int :=
 some (if (if 999999999999999<n_ then 999999999999999 else n_) > (-999999999999999) then (if 999999999999999<n_ then 999999999999999 else n_) else (-999999999999999))
def Ch (is_:Bool):Option Int :=
 bif is_ then
  some 1
 else
  some 0
def HV (op:Int)(a_:Int)(b:Int):Option Int :=
 bif (op == 12) then
  (Ch (a_ == b)).bind fun t =>
  some t
 else
  bif (op == 13) then
   (Ch (a_ != b)).bind fun t1 =>
   some t1
  else
   bif (op == 14) then
    (Ch (decide (a_<b))).bind fun t2 =>
    some t2
   else
    bif (op == 15) then
     (Ch (decide (a_<=b))).bind fun t3 =>
     some t3
    else
     bif (op == 16) then
      (Ch (decide (b<a_))).bind fun t4 =>
      some t4
     else
      (Ch (decide (b<=a_))).bind fun t5 =>
      some t5
mutual
def Di:Nat->Af->Ai->Int->(List Int)->Int->Option (List Int)
 |0,_,_,_,_,_=>none
 |n+1,e,d,known,x26,k =>
  bif (decide (k<(e.Kids.length:Int))) then
   (gi e.Kids k).bind fun x27 =>
   (BJ n x27 d known).bind fun e5 =>
   (some [e5]).bind fun l1 =>
   (CC 8 x26 l1).bind fun l2 =>
   Di n e d known l2 (À (k+1))
  else
   some x26
def BJ:Nat->Af->Ai->Int->Option Int
 |0,_,_,_=>none
 |n+1,e,d,known =>
  ((Di n e d known [] 0
  ):Option (List Int)).bind fun x =>
   bif (e.Op == 1) then
    some e.N
   else
    bif (e.Op == 3) then
     bif (decide (e.S=⟨#[121,101,97,114]⟩)) then
      some 365
     else
      bif (decide (e.S=⟨#[115,116,111,114,101,100]⟩)) then
       some d.Stored
      else
       bif (decide (e.S=⟨#[111,119,110,101,114]⟩)) then
        some d.Owner
       else
        some 41667
    else
     bif (e.Op == 4) then
      bif (decide (e.S=⟨#[100,97,121]⟩)) then
       (gi x 0).bind fun x1 =>
       some (if (if 41667<x1 then 41667 else x1) > 0 then (if 41667<x1 then 41667 else x1) else 0)
      else
       bif (decide (e.S=⟨#[112,101,114,115,111,110]⟩)) then
        (gi x 0).bind fun x2 =>
        some (if (if 1000<x2 then 1000 else x2) > 0 then (if 1000<x2 then 1000 else x2) else 0)
       else
        bif (decide (e.S=⟨#[109,105,110]⟩)) then
         (gi x 0).bind fun x3 =>
         (gi x 1).bind fun x4 =>
         some (if x4<x3 then x4 else x3)
        else
         bif (decide (e.S=⟨#[109,97,120]⟩)) then
          (gi x 0).bind fun x5 =>
          (gi x 1).bind fun x6 =>
          some (if x6 > x5 then x6 else x5)
         else
          (gi x 0).bind fun x7 =>
          (EU e.S).bind fun f =>
          (DZ n d known f x7).bind fun l =>
          some l
     else
      bif (e.Op == 5) then
       (gi x 0).bind fun x8 =>
       some (À (1-x8))
      else
       bif (e.Op == 6) then
        (gi x 0).bind fun x9 =>
        some (À (0-x9))
       else
        bif (e.Op == 7) then
         (gi x 0).bind fun x10 =>
         (gi x 1).bind fun x11 =>
         (E8 x10 x11).bind fun p =>
         some p
        else
         ((bif (e.Op == 10) then
          some (e.Op == 10)
         else
          some (e.Op == 11)
         ):Option Bool).bind fun v116 =>
          bif v116 then
           (gi x 1).bind fun x12 =>
           ((bif (e.Op == 11) then
            some (À (0-x12))
           else
            some x12
           ):Option Int).bind fun n_ =>
            (gi e.Kids 0).bind fun x13 =>
            (Bq n x13).bind fun left =>
            (gi e.Kids 1).bind fun x14 =>
            (Bq n x14).bind fun right =>
            ((bif (left.T == 2) then
             some (right.T == 1)
            else
             some false
            ):Option Bool).bind fun v144 =>
             bif v144 then
              (gi x 0).bind fun x15 =>
              (ET x15 n_).bind fun m_ =>
              some m_
             else
              (gi x 0).bind fun x16 =>
              (DC (À (x16+n_))).bind fun n_1 =>
              some n_1
          else
           bif (e.Op == 18) then
            (gi x 0).bind fun x17 =>
            (gi x 1).bind fun x18 =>
            some (À (x17*x18))
           else
            bif (e.Op == 19) then
             (gi x 0).bind fun x19 =>
             (gi x 1).bind fun x20 =>
             some (if x20 > x19 then x20 else x19)
            else
             bif (e.Op == 20) then
              (gi x 0).bind fun x21 =>
              bif (x21 == 1) then
               (gi x 1).bind fun x22 =>
               some x22
              else
               (gi x 2).bind fun x23 =>
               some x23
             else
              (gi x 0).bind fun x24 =>
              (gi x 1).bind fun x25 =>
              (HV e.Op x24 x25).bind fun c =>
              some c
end
def Jk (n:Nat)(c:Aa)(d:Ai)(known:Int):Option Fy :=
 (some [c]).bind fun l =>
 (Ha n l).bind fun e =>
 bif (e != 0) then
  some (Fy.mk 0 0 false e)
 else
  (Gg n d known).bind fun e1 =>
  bif (e1 != 0) then
   some (Fy.mk 0 0 false e1)
  else
   (((BJ n c.From d known).bind fun e3 =>
   (BJ n c.To d known).bind fun e4 =>
   bif (decide (c.Known<=known)) then
    (BJ n c.When d known).bind fun e5 =>
    some (e3,e4,(e5 == 1))
   else
    some (e3,e4,false)
   ):Option (Int×Int×Bool)).bind fun y=>match y with
   |(q,q1,q2) =>
    some (Fy.mk q q1 q2 0)
mutual
def Dh:Nat->Af->Int->Int->Option Int
 |0,_,_,_=>none
 |n+1,e,n_2,k =>
  ((bif (decide (k<(e.Kids.length:Int))) then
   some (decide (0<=n_2))
  else
   some false
  ):Option Bool).bind fun v16 =>
   bif v16 then
    (gi e.Kids k).bind fun x =>
    (C4 n x n_2).bind fun n_3 =>
    Dh n e n_3 (À (k+1))
   else
    some n_2
def C4:Nat->Af->Int->Option Int
 |0,_,_=>none
 |n+1,e,n_ =>
  ((Dh n e (À (n_-1)) 0
  ):Option Int).bind fun n_1 =>
   some n_1
end
def Cm:Nat->(List Aa)->Int->Int->Int->Option Int
 |0,_,_,_,_=>none
 |n+1,l,i,n_4,k =>
  ((bif (decide (k<3)) then
   some (decide (0<=n_4))
  else
   some false
  ):Option Bool).bind fun v25 =>
   bif v25 then
    (gi l i).bind fun x =>
    (HM x k).bind fun p =>
    (C4 n p n_4).bind fun n_5 =>
    Cm n l i n_5 (À (k+1))
   else
    some n_4
def DD:Nat->(List Aa)->Int->Int->Option Int
 |0,_,_,_=>none
 |n+1,l,n_2,i =>
  ((bif (decide (i<(l.length:Int))) then
   some (decide (0<=n_2))
  else
   some false
  ):Option Bool).bind fun v17 =>
   bif v17 then
    ((Cm n l i n_2 0
    ):Option Int).bind fun n_3 =>
     DD n l n_3 (À (i+1))
   else
    some n_2
def Kh (n:Nat)(l:(List Aa))(n_:Int):Option Bool :=
 bif (decide (50<(l.length:Int))) then
  some false
 else
  ((DD n l n_ 0
  ):Option Int).bind fun n_1 =>
   some (decide (0<=n_1))
abbrev hC (l:List Aa):PV:=hP l B0
abbrev oC (l:List Aa):PV:=oP l B0
abbrev kC (x:Aa):List PV:=[tP x.Name,iP x.Kind,iP x.Rank,iP x.Known,iP x.From.Op,iP x.From.N,tP x.From.S,hX x.From.Kids,iP x.From.At,iP x.To.Op,iP x.To.N,tP x.To.S,hX x.To.Kids,iP x.To.At,iP x.When.Op,iP x.When.N,tP x.When.S,hX x.When.Kids,iP x.When.At,iP x.Houses]
abbrev kL (x:CO):List PV:=[iP x.T,iP x.P.At,iP x.P.E]
abbrev kN (x:Fy):List PV:=[iP x.From,iP x.To,bP x.Is,iP x.E]
end Go.Sp
namespace Go.Proofs.YtehfpameijkafaaGreatDoor
open Go.ChangeShapes Go.WideShapes Go.ChangeAt Go.RowKit Go.Q Go.Vl Go.Sp
set_option maxRecDepth 100000
abbrev UC (w:World):Nat->Nat->Prop:=fun b i=>(w.cell? ⟨b,i,none⟩).isSome=true
def Row (w:World)(r:List PV)(cs:List Value):Prop:=cs.length=r.length/\∀ j (hj:j<r.length),∃ u,cs[j]?=some u/\u.oneCell'=true/\∀ φ,V w (UC w) φ r[j] u
theorem Row.nil {w:World}:Row w [] []:=⟨rfl,fun j hj=>absurd hj (by simp)⟩
theorem Row.cons {w:World}{p:PV}{r:List PV}{u:Value}{cs:List Value}(h1:u.oneCell'=true)(h:∀ φ,V w (UC w) φ p u)(k:Row w r cs):Row w (p::r) (u::cs):=by
 refine⟨by simp [k.1],fun j a=>?_⟩
 cases j with
 |zero=>exact⟨u,rfl,h1,h⟩
 |succ j=>exact k.2 j (by simpa using a)
theorem Xf {H:Type}{enc:TypeId×Value->H}{w:World}{held:Bool}{fuel:Nat}{t e:TypeId}{sz:Nat}{cs:List Value}{x:DataW H×List MemPlace}{α:Type}(row:α->List PV)(R:α->Prop)
 (ht:Tryz.prog.underlying t=some (.slice e)) (hsz:Tryz.prog.cellsOf e=sz) (h0:0<sz) (hr:∀ y,(row y).length=sz)
 (hel:∀ n cs x,n<fuel->DataW.trod enc Tryz.prog w 0 (fun _=>true) held n e cs=some x->∃ y,R y/\Row w (row y) cs)
 (h:DataW.trod enc Tryz.prog w 0 (fun _=>true) held fuel t cs=some x) :
 ∃ (l:List α) (v:Value),cs=[v]/\v.oneCell'=true/\(∀ φ,V w (UC w) φ (.sl (l.map row) .shared) v)/\(∀ y∈l,R y)/\l.length<=9223372036854775807:=by
 rcases DataW.trod_slice ht h with⟨e0,_⟩|⟨a,len,cap,elems,rest,n,W,e0,_,_,I,B,O,d,C,_⟩
 . exact⟨[],_,e0,rfl,fun φ=>.nil _ _,by simp,by simp⟩
 . have P:cap<=9223372036854775807:=by unfold maxLen at B;exact B
   rw [hsz] at d C
   obtain⟨b,o,sp⟩:=a
   have key:∀ i,i<len->∃ y,R y/\∃ cs,Row w (row y) cs/\∀ j,j<sz->w.cell? (((Addr.mk b o sp).add (i*sz)).add j)=cs[j]?:=fun i J=>by
    have A:=d i J
    rw [Ã (by omega)] at A
    obtain⟨cs,z,S⟩:=Option.bind_eq_some_iff.1 A
    obtain⟨_,_,c⟩:=World.cells?_some z
    obtain⟨y,K,f⟩:=hel n cs _ (by omega) S
    exact⟨y,K,cs,f,c⟩
   have D:0<len->sp=none:=fun T=>by
    obtain⟨y,_,cs,f,z⟩:=key 0 T
    obtain⟨u,q,_⟩:=f.2 0 (by rw [hr];exact h0)
    have:=World.cell?_spot ((z 0 h0).trans q)
    simpa [Addr.add] using this
   have E:sp≠none->cap=0:=fun F=>by
    rcases Nat.eq_zero_or_pos cap with e|e
    . exact e
    . exfalso
      rcases Nat.eq_zero_or_pos len with e1|e1
      . subst e1
        obtain⟨k1,k2⟩:=C rfl
        have k3:=k2 0 (by omega)
        rw [Ã (by omega)] at k3
        obtain⟨cs,z,_⟩:=Option.bind_eq_some_iff.1 k3
        obtain⟨_,s,c⟩:=World.cells?_some z
        have k4:=c 0 h0
        rw [Ã (by omega)] at k4
        have:=World.cell?_spot k4
        exact F (by simpa [Addr.add] using this)
      . exact F (D e1)
   cases sp with
   |some k =>
    have L:=E (by simp)
    have M:len=0:=by omega
    subst L M
    exact⟨[],_,e0,rfl,fun φ=>.emp _ _ _ _ _ (by simp),by simp,by simp⟩
   |none =>
    have s:(List.ofFn (fun i:Fin len=>(key i i.isLt).choose)).length=len:=by simp
    refine⟨List.ofFn (fun i:Fin len=>(key i i.isLt).choose),_,e0,rfl,fun φ=>?_,fun y K=>?_,by rw [s];omega⟩
    . have r:∀ i (d:i<((List.ofFn (fun i:Fin len=>(key i i.isLt).choose)).map row).length) (m:i<len),((List.ofFn (fun i:Fin len=>(key i i.isLt).choose)).map row)[i]=row (key i m).choose:=fun i d m=>by simp
      have c:∀ i j (d:i<len),j<sz->∃ u,w.cell? ⟨b,o+i*sz+j,none⟩=some u/\u.oneCell'=true/\∀ (p:j<(row (key i d).choose).length) φ,V w (UC w) φ (row (key i d).choose)[j] u:=fun i j d p=>by
       obtain⟨_,cs,f,z⟩:=(key i d).choose_spec
       obtain⟨u,q,A,N⟩:=f.2 j (by rw [hr];exact p)
       refine⟨u,?_,A,fun _=>N⟩
       have:=(z j p).trans q
       rw [YF,YF] at this
       exact this
      have g:((List.ofFn (fun i:Fin len=>(key i i.isLt).choose)).map row).length=len:=by simp
      have key2:=V.sl (w:=w) (U:=UC w) φ ((List.ofFn (fun i:Fin len=>(key i i.isLt).choose)).map row) .shared b o sz cap (fun i j=>(w.cell? ⟨b,o+i*sz+j,none⟩).getD Go.undef)
       (by rw [g];exact I) P (fun i d=>by rw [r i d (by rw [g] at d;exact d),hr])
       (fun i j d p=>by rw [g] at d;obtain⟨u,q,_⟩:=c i j d p;show (w.cell? ⟨b,o+i*sz+j,none⟩).isSome=true;rw [q];rfl)
       (fun i j d p=>by rw [g] at d;obtain⟨u,q,_⟩:=c i j d p;rw [q];rfl)
       (fun i j d p=>by rw [g] at d;obtain⟨u,q,A,_⟩:=c i j d p;simp only [q,Option.getD_some];exact A)
       (fun i d j p=>by
        have m:i<len:=by rw [g] at d;exact d
        have G:j<sz:=by rw [r i d m,hr] at p;exact p
        obtain⟨u,q,_,N⟩:=c i j m G
        simp only [q,Option.getD_some,r i d m]
        exact N (by rw [hr];exact G) [])
       (by simp) (by simp)
      rw [g] at key2
      exact key2
    . obtain⟨i,rfl⟩:=List.mem_ofFn.1 K
      exact (key i i.isLt).choose_spec.1
theorem Aas {H:Type}{enc:TypeId×Value->H}{w:World}{held:Bool}:∀ (fuel:Nat) {cs:List Value} {x:DataW H×List MemPlace},DataW.trod enc Tryz.prog w 0 (fun _=>true) held fuel 64 cs=some x->∃ y:Af,Row w (Bd y) cs:=by
 have c24:Tryz.prog.cellsOf 64=5:=by kernel_rfl
 have c3:Tryz.prog.cellsOf 3=1:=by kernel_rfl
 have c9:Tryz.prog.cellsOf 9=1:=by kernel_rfl
 have c22:Tryz.prog.cellsOf 62=1:=by kernel_rfl
 intro fuel
 induction fuel using Nat.strongRecOn with
 |ind fuel ih =>
 intro cs x h
 obtain⟨xs,n,i,rfl,c,b,a⟩:=DataW.trod_struct Tryz.underlying64 h
 rw [c24] at c
 match cs,c with
 | [v0,v1,v2,v3,v4],_ =>
  have d:xs.length=5:=b
  have f0:DataW.trod enc Tryz.prog w 0 (fun _=>true) held n 3 (List.take (Tryz.prog.cellsOf 3) [v0,v1,v2,v3,v4])=xs[0]?:=a 0 _ rfl
  have f1:DataW.trod enc Tryz.prog w 0 (fun _=>true) held n 3 (List.take (Tryz.prog.cellsOf 3) [v1,v2,v3,v4])=xs[1]?:=a 1 _ rfl
  have f2:DataW.trod enc Tryz.prog w 0 (fun _=>true) held n 9 (List.take (Tryz.prog.cellsOf 9) [v2,v3,v4])=xs[2]?:=a 2 _ rfl
  have f3:DataW.trod enc Tryz.prog w 0 (fun _=>true) held n 62 (List.take (Tryz.prog.cellsOf 62) [v3,v4])=xs[3]?:=a 3 _ rfl
  have f4:DataW.trod enc Tryz.prog w 0 (fun _=>true) held n 3 (List.take (Tryz.prog.cellsOf 3) [v4])=xs[4]?:=a 4 _ rfl
  rw [c3] at f0 f1 f4
  rw [c9] at f2
  rw [c22] at f3
  simp only [List.take_succ_cons,List.take_zero] at f0 f1 f2 f3 f4
  rw [Ã (by omega)] at f0 f1 f2 f3 f4
  obtain⟨k0,e0,_,_⟩:=ÿ Tryz.underlying3 f0
  obtain⟨k1,e1,_,_⟩:=ÿ Tryz.underlying3 f1
  obtain⟨s,e2,_,_⟩:=DataW.trod_string Tryz.underlying9 f2
  obtain⟨l,u,e3,e,f,_,_⟩:=Xf Bd (fun _=>True) Tryz.underlying62 c24 (by decide) Ke (fun m cs x j h=>by obtain⟨y,g⟩:=ih m (by omega) h;exact⟨y,trivial,g⟩) f3
  obtain⟨k4,e4,_,_⟩:=ÿ Tryz.underlying3 f4
  simp only [List.cons.injEq,and_true] at e0 e1 e2 e3 e4
  subst e0 e1 e2 e3 e4
  refine⟨⟨k0,k1,s,l,k4⟩,?_⟩
  rw [GL]
  exact .cons rfl (fun φ=>.lit _ _) (.cons rfl (fun φ=>.lit _ _) (.cons rfl (fun φ=>.lit _ _) (.cons e f (.cons rfl (fun φ=>.lit _ _) .nil))))
theorem Yp {w:World}{r:List PV}{cs:Array Value}(hy:Row w r cs.toList):∀ φ,V w (UC w) φ (.agg r) (.agg cs):=by
 have c:cs.size=r.length:=by have:=hy.1;simpa using this
 refine fun φ=>.agg _ _ _ c (fun i b=>?_) (fun i b=>?_)
 . obtain⟨u,a,_,d⟩:=hy.2 i b
   have e:cs.getD i Go.undef=u:=by
    rw [ċ] at a
    rw [Ê,a];rfl
   rw [e];exact d φ
 . obtain⟨u,a,f,_⟩:=hy.2 i (by rw [c] at b;exact b)
   have e:cs.getD i Go.undef=u:=by
    rw [ċ] at a
    rw [Ê,a];rfl
   rw [e];exact f
theorem Aar {H:Type}{enc:TypeId×Value->H}{w:World}{held:Bool}{fuel:Nat}{cs:List Value}{x:DataW H×List MemPlace}(h:DataW.trod enc Tryz.prog w 0 (fun _=>true) held fuel 73 cs=some x):∃ y:Br,Row w (DB y) cs:=by
 have c59:Tryz.prog.cellsOf 73=4:=by kernel_rfl
 have c3:Tryz.prog.cellsOf 3=1:=by kernel_rfl
 obtain⟨xs,n,e,rfl,c,b,a⟩:=DataW.trod_struct Tryz.underlying73 h
 rw [c59] at c
 match cs,c with
 | [v0,v1,v2,v3],_ =>
  have d:xs.length=4:=b
  have f0:DataW.trod enc Tryz.prog w 0 (fun _=>true) held n 3 (List.take (Tryz.prog.cellsOf 3) [v0,v1,v2,v3])=xs[0]?:=a 0 _ rfl
  have f1:DataW.trod enc Tryz.prog w 0 (fun _=>true) held n 3 (List.take (Tryz.prog.cellsOf 3) [v1,v2,v3])=xs[1]?:=a 1 _ rfl
  have f2:DataW.trod enc Tryz.prog w 0 (fun _=>true) held n 3 (List.take (Tryz.prog.cellsOf 3) [v2,v3])=xs[2]?:=a 2 _ rfl
  have f3:DataW.trod enc Tryz.prog w 0 (fun _=>true) held n 3 (List.take (Tryz.prog.cellsOf 3) [v3])=xs[3]?:=a 3 _ rfl
  rw [c3] at f0 f1 f2 f3
  simp only [List.take_succ_cons,List.take_zero] at f0 f1 f2 f3
  rw [Ã (by omega)] at f0 f1 f2 f3
  obtain⟨k0,e0,_,_⟩:=ÿ Tryz.underlying3 f0
  obtain⟨k1,e1,_,_⟩:=ÿ Tryz.underlying3 f1
  obtain⟨k2,e2,_,_⟩:=ÿ Tryz.underlying3 f2
  obtain⟨k3,e3,_,_⟩:=ÿ Tryz.underlying3 f3
  simp only [List.cons.injEq,and_true] at e0 e1 e2 e3
  subst e0 e1 e2 e3
  refine⟨⟨k0,k1,k2,k3⟩,?_⟩
  rw [Lg]
  exact .cons rfl (fun φ=>.lit _ _) (.cons rfl (fun φ=>.lit _ _) (.cons rfl (fun φ=>.lit _ _) (.cons rfl (fun φ=>.lit _ _) .nil)))
theorem V5 {H:Type}{enc:TypeId×Value->H}{w:World}{held:Bool}{fuel:Nat}{cs:Array Value}{x:DataW H×List MemPlace}(h:DataW.trod enc Tryz.prog w 0 (fun _=>true) held fuel 25 (Value.agg cs).cells.toList=some x) :
 ∃ y:Ai,(∀ φ,V w (UC w) φ (.agg (I1 y)) (.agg cs))/\y.Facts.length<=9223372036854775807:=by
 have c29:Tryz.prog.cellsOf 25=3:=by kernel_rfl
 have c59:Tryz.prog.cellsOf 73=4:=by kernel_rfl
 have c3:Tryz.prog.cellsOf 3=1:=by kernel_rfl
 have c27:Tryz.prog.cellsOf 23=1:=by kernel_rfl
 have h:DataW.trod enc Tryz.prog w 0 (fun _=>true) held fuel 25 cs.toList=some x:=h
 obtain⟨xs,n,k,rfl,e,d,c⟩:=DataW.trod_struct Tryz.underlying25 h
 rw [c29] at e
 match a:cs.toList,e with
 | [v0,v1,v2],_ =>
  rw [a] at c
  have f:xs.length=3:=d
  have f0:DataW.trod enc Tryz.prog w 0 (fun _=>true) held n 23 (List.take (Tryz.prog.cellsOf 23) [v0,v1,v2])=xs[0]?:=c 0 _ rfl
  have f1:DataW.trod enc Tryz.prog w 0 (fun _=>true) held n 3 (List.take (Tryz.prog.cellsOf 3) [v1,v2])=xs[1]?:=c 1 _ rfl
  have f2:DataW.trod enc Tryz.prog w 0 (fun _=>true) held n 3 (List.take (Tryz.prog.cellsOf 3) [v2])=xs[2]?:=c 2 _ rfl
  rw [c27] at f0
  rw [c3] at f1 f2
  simp only [List.take_succ_cons,List.take_zero] at f0 f1 f2
  rw [Ã (by omega)] at f0 f1 f2
  obtain⟨l,u,e0,g,i,_,b⟩:=Xf DB (fun _=>True) Tryz.underlying23 c59 (by decide) Kd (fun m cs x o h=>by obtain⟨y,j⟩:=Aar h;exact⟨y,trivial,j⟩) f0
  obtain⟨k1,e1,_,_⟩:=ÿ Tryz.underlying3 f1
  obtain⟨k2,e2,_,_⟩:=ÿ Tryz.underlying3 f2
  simp only [List.cons.injEq,and_true] at e0 e1 e2
  subst e0 e1 e2
  refine⟨⟨l,k1,k2⟩,Yp ?_,b⟩
  rw [a,Ji]
  exact .cons g i (.cons rfl (fun φ=>.lit _ _) (.cons rfl (fun φ=>.lit _ _) .nil))
theorem QY {w:World}{r:Reach}{b0:Nat}{v:Value}(h:Value.okWide Tryz.prog w r b0 25 v):∃ cs,v=.agg cs:=by
 unfold Value.okWide at h
 rw [Tryz.underlying25] at h
 obtain⟨cs,e,_⟩:=h
 exact⟨cs,e⟩
theorem V7 {H:Type}{enc:TypeId×Value->H}{w:World}{held:Bool}{fuel:Nat}{cs:List Value}{x:DataW H×List MemPlace}(h:DataW.trod enc Tryz.prog w 0 (fun _=>true) held fuel 66 cs=some x):∃ y:Aa,Row w (B0 y) cs:=by
 have c26:Tryz.prog.cellsOf 66=20:=by kernel_rfl
 have c24:Tryz.prog.cellsOf 64=5:=by kernel_rfl
 have c3:Tryz.prog.cellsOf 3=1:=by kernel_rfl
 have c9:Tryz.prog.cellsOf 9=1:=by kernel_rfl
 obtain⟨xs,n,E,rfl,l,i,f⟩:=DataW.trod_struct Tryz.underlying66 h
 rw [c26] at l
 match cs,l with
 | [a0,a1,a2,a3,b0,b1,b2,b3,b4,u0,u1,u2,u3,u4,d0,d1,d2,d3,d4,a7],_ =>
  have m:xs.length=8:=i
  have f0:DataW.trod enc Tryz.prog w 0 (fun _=>true) held n 9 (List.take (Tryz.prog.cellsOf 9) [a0,a1,a2,a3,b0,b1,b2,b3,b4,u0,u1,u2,u3,u4,d0,d1,d2,d3,d4,a7])=xs[0]?:=f 0 _ rfl
  have f1:DataW.trod enc Tryz.prog w 0 (fun _=>true) held n 3 (List.take (Tryz.prog.cellsOf 3) [a1,a2,a3,b0,b1,b2,b3,b4,u0,u1,u2,u3,u4,d0,d1,d2,d3,d4,a7])=xs[1]?:=f 1 _ rfl
  have f2:DataW.trod enc Tryz.prog w 0 (fun _=>true) held n 3 (List.take (Tryz.prog.cellsOf 3) [a2,a3,b0,b1,b2,b3,b4,u0,u1,u2,u3,u4,d0,d1,d2,d3,d4,a7])=xs[2]?:=f 2 _ rfl
  have f3:DataW.trod enc Tryz.prog w 0 (fun _=>true) held n 3 (List.take (Tryz.prog.cellsOf 3) [a3,b0,b1,b2,b3,b4,u0,u1,u2,u3,u4,d0,d1,d2,d3,d4,a7])=xs[3]?:=f 3 _ rfl
  have f4:DataW.trod enc Tryz.prog w 0 (fun _=>true) held n 64 (List.take (Tryz.prog.cellsOf 64) [b0,b1,b2,b3,b4,u0,u1,u2,u3,u4,d0,d1,d2,d3,d4,a7])=xs[4]?:=f 4 _ rfl
  have f5:DataW.trod enc Tryz.prog w 0 (fun _=>true) held n 64 (List.take (Tryz.prog.cellsOf 64) [u0,u1,u2,u3,u4,d0,d1,d2,d3,d4,a7])=xs[5]?:=f 5 _ rfl
  have f6:DataW.trod enc Tryz.prog w 0 (fun _=>true) held n 64 (List.take (Tryz.prog.cellsOf 64) [d0,d1,d2,d3,d4,a7])=xs[6]?:=f 6 _ rfl
  have f7:DataW.trod enc Tryz.prog w 0 (fun _=>true) held n 3 (List.take (Tryz.prog.cellsOf 3) [a7])=xs[7]?:=f 7 _ rfl
  rw [c9] at f0
  rw [c3] at f1 f2 f3 f7
  rw [c24] at f4 f5 f6
  simp only [List.take_succ_cons,List.take_zero] at f0 f1 f2 f3 f4 f5 f6 f7
  rw [Ã (by omega)] at f0 f1 f2 f3 f4 f5 f6 f7
  obtain⟨s,e0,_,_⟩:=DataW.trod_string Tryz.underlying9 f0
  obtain⟨k1,e1,_,_⟩:=ÿ Tryz.underlying3 f1
  obtain⟨k2,e2,_,_⟩:=ÿ Tryz.underlying3 f2
  obtain⟨k3,e3,_,_⟩:=ÿ Tryz.underlying3 f3
  obtain⟨y4,r4⟩:=Aas n f4
  obtain⟨y5,r5⟩:=Aas n f5
  obtain⟨y6,r6⟩:=Aas n f6
  obtain⟨k7,e7,_,_⟩:=ÿ Tryz.underlying3 f7
  simp only [List.cons.injEq,and_true] at e0 e1 e2 e3 e7
  subst e0 e1 e2 e3 e7
  refine⟨⟨s,k1,k2,k3,y4,y5,y6,k7⟩,?_⟩
  rw [GL] at r4 r5 r6
  rw [Hs]
  have one:∀ {p q r t u:PV} {a b c d e:Value} {R:List PV} {C:List Value},Row w [p,q,r,t,u] [a,b,c,d,e]->Row w R C->Row w (p::q::r::t::u::R) (a::b::c::d::e::C):=fun {p q r t u a b c d e R C} g k=>by
   have g:∀ (j:Nat) (hj:j<5),∃ z,[a,b,c,d,e][j]?=some z/\z.oneCell'=true/\∀ φ,V w (UC w) φ ([p,q,r,t,u][j]'hj) z:=g.2
   obtain⟨_,o,p0,q0⟩:=g 0 (by decide)
   obtain⟨_,v,p1,q1⟩:=g 1 (by decide)
   obtain⟨_,A,p2,q2⟩:=g 2 (by decide)
   obtain⟨_,B,p3,q3⟩:=g 3 (by decide)
   obtain⟨_,D,p4,q4⟩:=g 4 (by decide)
   obtain rfl:=Ag o
   obtain rfl:=Ag v
   obtain rfl:=Ag A
   obtain rfl:=Ag B
   obtain rfl:=Ag D
   exact .cons p0 q0 (.cons p1 q1 (.cons p2 q2 (.cons p3 q3 (.cons p4 q4 k))))
  exact .cons rfl (fun φ=>.lit _ _) (.cons rfl (fun φ=>.lit _ _) (.cons rfl (fun φ=>.lit _ _) (.cons rfl (fun φ=>.lit _ _) (one r4 (one r5 (one r6 (.cons rfl (fun φ=>.lit _ _) .nil)))))))
theorem Adp {w:World}{f:Nat}{ps:List PV}{vs:Array Value}(hvc:VC Tryz.prog f ps [] fun x σ'=>x=.ret (.lit (.bool true))/\σ'=[])(hn:vs.size=ps.length)(hv:∀ i (hi:i<ps.length),V w (UC w) [] ps[i] (vs.getD i Go.undef))(hg:Rz w)(hb:∀ b∈Xy,b<w.heap.size) :
 Calls Tryz.prog f vs w fun e w'=>e=.returned (.bool true)/\Below w.heap.size w w':=by
 refine (hvc.out (U:=UC w) (vs:=vs) hg hb (fun b i c=>?_) hn fun i hi=>hv i hi).mono fun e w' a=>?_
 . obtain⟨u,c⟩:=Option.isSome_iff_exists.1 c
   exact World.block_lt_of_cell? _ _ c
 . obtain⟨⟨x,σ',G',⟨rfl,_⟩,v,d,g,_⟩,j⟩:=a
   refine⟨?_,j⟩
   have key:∀ {p:PV} {v:Value},V w' G'.U G'.φ p v->p=.lit (.bool true)->v=.bool true:=fun h e=>by
    cases h with
    |lit _ _=>injection e
    |_=>cases e
   rw [key g rfl] at d;exact d
end Go.Proofs.YtehfpameijkafaaGreatDoor
namespace Go.Proofs.YtehfpameijkafaaGreatDoor
open Go.ChangeShapes Go.WideShapes Go.ChangeAt Go.RowKit Go.Q Go.Vl Go.Sp
set_option maxRecDepth 100000
theorem V6 {H:Type}{enc:TypeId×Value->H}{w:World}{held:Bool}{fuel:Nat}{v:Value}{x:DataW H×List MemPlace}(hv:v.cells.toList=[v])(h:DataW.trod enc Tryz.prog w 0 (fun _=>true) held fuel 22 v.cells.toList=some x) :
 ∃ l:List Aa,∀ φ,V w (UC w) φ (hC l) v:=by
 have c26:Tryz.prog.cellsOf 66=20:=by kernel_rfl
 rw [hv] at h
 obtain⟨l,u,e,_,q,g,r⟩:=Xf B0 (fun _=>True) Tryz.underlying22 c26 (by decide) GR (fun m cs x b h=>by obtain⟨y,a⟩:=V7 h;exact⟨y,trivial,a⟩) h
 obtain rfl:v=u:=by simpa using e
 exact⟨l,q⟩
end Go.Proofs.YtehfpameijkafaaGreatDoor

namespace Go.Vl
open Go Go.RowKit
def setL (st:St):Loc->PV->St
 |.tmp t,p=>st.put (some t) p
 |.cell k j,p=>{ st with σ:=st.σ.set k ((st.σ.getD k []).set j p) }
 |_,_=>st
def Pa:Loc->Bool
 |.tmp _=>true
 |.cell _ _=>true
 |_=>false
def YL (w:World)(G:Gh)(tm:Nat->Value):Loc->Value->Prop
 |.tmp t,v=>tm t=v
 |.cell k j,v=>∃ b,G.φ[k]?=some b/\w.cell? ⟨b,j,none⟩=some v
 |_,_=>False
def Sz:PV->Bool
 |.undef=>true
 |.asl _ _ _ _=>true
 |.prv _=>true
 |.sl _ .own=>true
 |.sl _ .shared=>true
 |_=>false
def DQ (xs:List (List Value))(m:Nat):List PV:=xs.flatten.map .lit++List.replicate m .undef
section
variable {w w0:World} {G G0:Gh} {st:St} {tm:Nat->Value} {l:Loc} {p:PV} {v:Value}
theorem Inv.getL {xs:List (List Value)}(h:Inv w0 G0 st tm w G)(hl:Pa l=true)(hc:AO st l=.prv xs):∃ v,YL w G tm l v/\V w G.U G.φ (.prv xs) v/\BD w G l xs v:=by
 cases l with
 |tmp t =>
  have r:st.get t=.prv xs:=hc
  have i:=h.env.v t
  have m:=h.env.tag t
  rw [r] at i m
  exact⟨tm t,rfl,i,m⟩
 |cell k j =>
  have hc:(st.σ.getD k []).getD j .undef=.prv xs:=hc
  cases a:st.σ[k]? with
  |none=>simp [List.getD,a] at hc
  |some cs =>
   cases c:cs[j]? with
   |none=>simp [List.getD,a,c] at hc
   |some p =>
    obtain rfl:p=.prv xs:=by simpa [List.getD,a,c] using hc
    have f:=(List.getElem?_eq_some_iff.1 a).1
    have n:G.φ[k]?=some (G.φ[k]'(by rw [h.store.len];exact f)):=Ã _
    obtain⟨⟨o',arr,s,⟨d,x⟩,b⟩,o⟩:=h.store.blk k _ cs n a
    have g:NM cs:=fun q e=>by
     subst e
     match j,c with
     |0,c=>cases c;rfl
    obtain⟨T,rfl⟩:=d.cells g
    obtain⟨u,y,C,z,B⟩:=b j _ c
    exact⟨u,⟨_,n,by simp only [World.cell?,s];simpa using y⟩,z,B⟩
 |_=>cases hl
theorem Inv.setL (h:Inv w0 G0 st tm w G)(hv:YL w G tm l v)(hV:V w G.U G.φ p v)(hT:Cr w G l p v)(hp:Sz p=true)(h1:v.oneCell'=true)(hno:∀ ys,AO st l≠.sl ys .own)(hm:(AO st l).isM=false) :
 Inv w0 G0 (Vl.setL st l p) tm w G:=by
 cases l with
 |tmp t =>
  obtain rfl:tm t=v:=hv
  have:=h.put t hV (by
   cases p with
   |sl xs g=>cases g<;>first|exact hT|cases hp|trivial
   |prv xs=>exact hT
   |asl=>trivial
   |undef=>trivial
   |_=>cases hp)
  rw [Ig] at this
  exact this
 |cell k j =>
  obtain⟨b,A,B⟩:=hv
  have r:k<st.σ.length:=by rw [<- h.store.len];exact (List.getElem?_eq_some_iff.1 A).1
  have m:st.σ[k]?=some st.σ[k]:=Ã r
  have s:st.σ.getD k []=st.σ[k]:=by simp [List.getD,r]
  show Inv w0 G0 { st with σ:=st.σ.set k ((st.σ.getD k []).set j p) } tm w G
  rw [s]
  have hno:∀ ys,(st.σ[k]).getD j .undef≠.sl ys .own:=fun ys e=>hno ys (by show (st.σ.getD k []).getD j .undef=_;rw [s];exact e)
  have hm:((st.σ[k]).getD j .undef).isM=false:=by have:((st.σ.getD k []).getD j .undef).isM=false:=hm;rw [s] at this;exact this
  generalize st.σ[k]=cs at *
  obtain⟨⟨o',arr,C,⟨n,D⟩,x⟩,I⟩:=h.store.blk k b cs A m
  by_cases a:j<cs.length
  . have M:cs[j]?=some cs[j]:=Ã a
    have E:cs.getD j .undef=cs[j]:=by simp [List.getD,a]
    rw [E] at hno hm
    have y:NM cs:=fun q e=>by
     subst e
     have:j=0:=by simpa using a
     subst this;exact hm
    have z:∀ p∈cs,p.isM=false:=by
     rcases n with F|⟨kvs,_,_,e,_⟩|⟨_,_,e,_⟩
     . exact F.2
     . exact absurd (y _ e) (by simp [PV.isM])
     . exact absurd (y _ e) (by simp [PV.isM])
    obtain⟨T,rfl⟩:=n.cells y
    have N:arr[j]?=some v:=by simpa [World.cell?,C] using B
    have o:∀ i,(cs.set j p)[i]?=if i=j then some p else cs[i]?:=fun i=>by
     rw [List.getElem?_set]
     by_cases e:j=i
     . subst e;simp [a]
     . rw [Ä e,Ä (fun e2=>e e2.symm)]
    have d:∀ i c,(cs.set j p)[i]?=some c->∃ u,arr[i]?=some u/\u.oneCell'=true/\V w G.U G.φ c u/\Cr w G (.cell k i) c u:=by
     intro i c f
     rw [o i] at f
     by_cases e:i=j
     . subst e
       rw [È rfl] at f
       obtain rfl:=Ag f
       exact⟨v,N,h1,hV,hT⟩
     . rw [Ä e] at f
       exact x i c f
    refine h.setBlock (cs:=cs) (cs':=cs.set j p) A m C C (fun kvs hm=>?_) (fun _ _=>rfl) rfl rfl rfl ⟨by simpa using D,fun i f=>?_⟩ (fun i c f=>?_) (fun t ys i f=>?_)
    . rcases List.mem_or_eq_of_mem_set hm with h1|rfl
      . exact z kvs h1
      . cases kvs<;>first|rfl|cases hp
    . obtain⟨u,h1,J,K,_⟩:=d i _ (Ã f)
      have:arr.getD i Go.undef=u:=by simp [h1]
      rw [this];exact⟨K,J⟩
    . obtain⟨u,h1,J,K,O⟩:=d i c f
      have:arr.getD i Go.undef=u:=by simp [h1]
      rw [this];exact O
    . have L:=h.env.tag t
      rw [f] at L
      obtain⟨cs2,b2,e1,e2,_,_⟩:=L
      obtain rfl:=Ag (m.symm.trans e1)
      have H:i≠j:=by
       rintro rfl
       exact hno ys (by rw [M] at e2;exact Ag e2)
      exact⟨by rw [o i,Ä H],rfl⟩
  . have e1:cs.set j p=cs:=List.set_eq_of_length_le (Nat.le_of_not_lt a)
    have e2:st.σ.set k cs=st.σ:=List.ext_getElem? fun i=>by
     rw [List.getElem?_set]
     by_cases e:k=i
     . subst e;rw [È rfl,È r];exact m.symm
     . rw [Ä e]
    rw [e1,e2]
    exact h
 |_=>exact hv.elim
theorem Mx (hl:Pa l=true):AO (Vl.setL st l .undef) l=.undef:=by
 cases l with
 |tmp t=>rw [AO];show (st.put (some t) .undef).get t=_;rw [BC,È rfl]
 |cell k j =>
  show ((st.σ.set k ((st.σ.getD k []).set j .undef)).getD k []).getD j .undef=_
  by_cases a:k<st.σ.length
  . by_cases b:j<(st.σ[k]).length
    . simp [List.getD,a,b]
    . simp [List.getD,a,b]
  . simp [List.getD,a]
 |_=>cases hl
theorem Inv.setUndef (h:Inv w0 G0 st tm w G)(hc:Sz (AO st l)=true)(hno:∀ ys,AO st l≠.sl ys .own)(hv:YL w G tm l v)(h1:v.oneCell'=true):Inv w0 G0 (Vl.setL st l .undef) tm w G :=
 h.setL hv (.undef _ _) trivial rfl h1 hno (by revert hc;generalize AO st l=q;intro hc;cases q<;>first|rfl|cases hc)
theorem Ym {φ:List Nat}{U:Nat->Nat->Prop}{xs:List (List Value)}(h:V w U φ (.prv xs) v):v.oneCell'=true:=by cases h;rfl
theorem Inv.toOwn {xs:List (List Value)}(h:Inv w0 G0 st tm w G)(hl:Pa l=true)(hc:AO st l=.prv xs):∃ G',Inv w0 G0 (Vl.setL (Vl.setL st l .undef) l (.sl (xs.map fun x=>x.map .lit) .own)) tm w G':=by
 obtain⟨v,A,J,hT⟩:=h.getL hl hc
 have q:=Ym J
 have H:=h.setUndef (by rw [hc];rfl) (by rw [hc];simp) A q
 have f:=Mx (st:=st) hl
 have o:∀ l',some l=some l'->∀ ys,AO (Vl.setL st l .undef) l'≠.sl ys .own:=fun l' e ys e2=>by
  obtain rfl:=Ag e
  rw [f] at e2;cases e2
 have r:∀ l',some l=some l'->∀ ys,AO (Vl.setL st l .undef) l'≠.prv ys:=fun l' e ys e2=>by
  obtain rfl:=Ag e
  rw [f] at e2;cases e2
 rcases hT with⟨rfl,rfl⟩|⟨b,cap,sz,T,arr,rfl,C,d,n,B,hb,⟨s,K,u⟩,I⟩
 . exact⟨G,H.setL A (.nil _ _) (.inl ⟨rfl,rfl⟩) rfl rfl (o l rfl) (by rw [f];rfl)⟩
 . have D:=h.store.ob b (by rw [B];simp)
   have L:=H.reblk (w':=w) (m:=xs.length*sz) (l0:=l) D.2 (.inr (by rw [B];simp)) (by rw [B];exact o) (by rw [B];exact r) rfl rfl rfl (ä _) (fun _ _ _=>rfl) (fun i M=>absurd M (I i)) hb
   have E:xs.length*sz<=arr.size:=by rw [s];exact ô _ d.1
   have z:∀ i j,i<xs.length->j<sz->i*sz+j<arr.size:=fun i j hi g=>ù (JT hi g) E
   have c:(xs.map fun x=>x.map PV.lit).length=xs.length:=by simp
   refine⟨_,L.setL ?_ (p:=.sl (xs.map fun x=>x.map .lit) .own) ?_ ?_ rfl q (o l rfl) (by rw [f];rfl)⟩
   . cases l with
     |tmp t=>exact A
     |cell k j=>exact A
     |_=>cases hl
   . rw [<- c]
     refine .sl _ _ _ b 0 sz cap (fun i j=>arr.getD (i*sz+j) Go.undef) (by rw [c];exact d.1) d.2 (fun i hi=>?_) (fun i j hi g=>.inr ⟨rfl,?_⟩) (fun i j hi g=>?_) (fun i j hi g=>?_) (fun i hi j g=>?_) (by simp) (by simp)
     . rw [ë,Ñ];exact n _ (Û _)
     . rw [c] at hi ⊢
       have:=JT hi g;omega
     . rw [c] at hi
       have:=z i j hi g
       simp only [World.cell?,hb,ø]
       simp [this]
     . rw [c] at hi
       exact K _ (z i j hi g)
     . rw [c] at hi
       have F:j<(xs[i]).length:=by simpa using g
       rw [u i hi j F]
       simp only [ë]
       exact .lit _ _
   . exact .inr ⟨b,cap,sz,T,arr,by rw [c],by simpa using C,fun x N=>by
      obtain⟨y,O,rfl⟩:=List.mem_map.1 N
      rw [Ñ];exact n y O,È rfl,hb,s,fun i hi=>by
      rw [c]
      rcases hi with hi|hi
      . exact absurd hi (I i)
      . exact hi.2⟩
def unC (st:St):Loc->St
 |.cell k j=>{ (st.stripC k j 1) with σ:=st.σ.set k ((st.σ.getD k []).set j (.sl [] .shared)) }
 |.tmp t=>st.put (some t) (.sl [] .shared)
 |_=>st
theorem Inv.toPrv (h:Inv w0 G0 st tm w G)(hl:Pa l=true)(hc:AO st l=.sl [] .own):Inv w0 G0 (Vl.setL (unC st l) l (.prv [])) tm w G:=by
 have nilV:∀ {v:Value},A0 w G l [] v->v=.slice none 0 0:=fun h=>by
  rcases h with⟨_,e⟩|⟨b,cap,sz,T,arr,_,n,_⟩
  . exact e
  . exact absurd rfl n
 cases l with
 |tmp t =>
  have x:st.get t=.sl [] .own:=hc
  have y:=h.env.tag t
  rw [x] at y
  have e:=nilV y
  have z:=h.share x
  exact z.setL (l:=.tmp t) rfl (p:=.prv []) (by rw [e];exact .prv _ [] none 0) (.inl ⟨rfl,e⟩) rfl (by rw [e];rfl) (fun ys e2=>by rw [AO,BC,È rfl] at e2;cases e2) (by rw [AO,BC,È rfl];rfl)
 |cell k j =>
  have hc:(st.σ.getD k []).getD j .undef=.sl [] .own:=hc
  cases a:st.σ[k]? with
  |none=>simp [List.getD,a] at hc
  |some cs =>
   cases c:cs[j]? with
   |none=>simp [List.getD,a,c] at hc
   |some p =>
    obtain rfl:p=.sl [] .own:=by simpa [List.getD,a,c] using hc
    have f:=(List.getElem?_eq_some_iff.1 a).1
    have o:=(List.getElem?_eq_some_iff.1 c).1
    have A:G.φ[k]?=some (G.φ[k]'(by rw [h.store.len];exact f)):=Ã _
    obtain⟨⟨o',arr,C,⟨g,D⟩,d⟩,B⟩:=h.store.blk k _ cs A a
    have r:NM cs:=fun q e=>by
     subst e
     match j,c with
     |0,c=>cases c;rfl
    obtain⟨T,rfl⟩:=g.cells r
    obtain⟨u,E,z,H,F⟩:=d j _ c
    have e:=nilV F
    have hI:=h.shareCell a c
    have i:st.σ.getD k []=cs:=by simp [List.getD,a]
    have m:AO (unC st (.cell k j)) (.cell k j)=.sl [] .shared:=by
     show ((st.σ.set k ((st.σ.getD k []).set j (.sl [] .shared))).getD k []).getD j .undef=_
     rw [i];simp [List.getD,f,o]
    have s:Inv w0 G0 (unC st (.cell k j)) tm w G:=by
     show Inv w0 G0 { (st.stripC k j 1) with σ:=st.σ.set k ((st.σ.getD k []).set j (.sl [] .shared)) } tm w G
     rw [i];exact hI
    exact s.setL (l:=.cell k j) ⟨_,A,by simp only [World.cell?,C];simpa using E⟩ (p:=.prv []) (by rw [e];exact .prv _ [] none 0) (.inl ⟨rfl,e⟩) rfl (by rw [e];rfl) (fun ys e2=>by rw [m] at e2;cases e2) (by rw [m];rfl)
 |_=>cases hl
def XQ (st:St)(cs:List PV):St:={ st with σ:=st.σ++[cs] }
theorem Inv.addPlace {b:Nat}{cs:List PV}{arr:Array Value}{T:TypeId}{l0:Loc}(h:Inv w0 G0 st tm w G)(hΩ:G.Ω b=some l0)(hno:∀ ys,AO st l0≠.sl ys .own)(hno2:∀ ys,AO st l0≠.prv ys)
 (hb:w.heap[b]?=some (.cells arr T (0,0))) (hsz:arr.size=cs.length) (hm:∀ p∈cs,p.isM=false) (hU:∀ i,¬ G.U b i)
 (hv:∀ j c,cs[j]?=some c->(arr.getD j Go.undef).oneCell'=true/\V w G.U [] c (arr.getD j Go.undef)/\(∀ xs,c≠.sl xs .own)/\∀ xs,c≠.prv xs) :
 Inv w0 G0 (XQ st cs) tm w { U:=G.U,φ:=G.φ++[b],Ω:=fun b'=>if b'=b then none else G.Ω b' }:=by
 have H:=h.store.ob b (by rw [hΩ];simp)
 have B:=h.store.len
 have N:∀ (k x:Nat),G.φ[k]?=some x->(G.φ++[b])[k]?=some x:=fun k x z=>by
  rw [Õ (List.getElem?_eq_some_iff.1 z).1];exact z
 have O:∀ {p:PV} {v:Value},V w G.U G.φ p v->V w G.U (G.φ++[b]) p v:=fun hv=>hv.mono (fun _ _ h=>⟨h,Kp.refl⟩) N
 have own:∀ {l xs v},l≠l0->A0 w G l xs v->A0 w { U:=G.U,φ:=G.φ++[b],Ω:=fun b'=>if b'=b then none else G.Ω b' } l xs v:=fun f I=>I.to rfl fun b2 d=>by
  show (if b2=b then none else G.Ω b2)=_
  rw [Ä (fun e=>f (by rw [e,hΩ] at d;exact (Ag d).symm))];exact d
 have prv:∀ {l xs v},l≠l0->BD w G l xs v->BD w { U:=G.U,φ:=G.φ++[b],Ω:=fun b'=>if b'=b then none else G.Ω b' } l xs v:=fun f I=>I.to rfl fun b2 d=>by
  show (if b2=b then none else G.Ω b2)=_
  rw [Ä (fun e=>f (by rw [e,hΩ] at d;exact (Ag d).symm))];exact d
 refine⟨h.ext.trans ⟨rfl,rfl,rfl,ä _,fun _ _ _ _=>rfl,fun _ _ h=>⟨h,Kp.refl⟩,fun _ _ h=>.inl h,fun b' n=>.inr (fun e=>n (by show (if b'=b then none else G.Ω b')=none;split<;>first|rfl|exact e)),[b],rfl,fun b' n=>by
  obtain rfl:b'=b:=by simpa using n
  exact .inr (by rw [hΩ];simp)⟩,⟨by simp [XQ,B],?_,fun k b' cs2 z C=>?_,h.store.ub,fun b' n=>?_⟩,fun t=>O (h.env.v t),fun t=>?_⟩
 . rw [ė]
   refine⟨h.store.nodup,by simp,fun x R y S e=>?_⟩
   obtain rfl:y=b:=by simpa using S
   exact H.2 (e ▸ R)
 . by_cases J:k<st.σ.length
   . have K:G.φ[k]?=some b':=by rw [Õ (by omega)] at z;exact z
     have D:st.σ[k]?=some cs2:=by
      have:(st.σ++[cs])[k]?=some cs2:=C
      rw [Õ J] at this;exact this
     obtain⟨⟨o',arr',g1,⟨g2,g3⟩,g4⟩,g5⟩:=h.store.blk k b' cs2 K D
     refine⟨⟨o',arr',g1,⟨g2,g3⟩,fun j c F=>?_⟩,g5⟩
     obtain⟨v,k1,k2,k3,k4⟩:=g4 j c F
     refine⟨v,k1,k2,O k3,?_⟩
     unfold Cr at k4 ⊢
     split
     . rename_i xs
       refine own (fun e=>hno xs ?_) k4
       rw [<- e];simp [AO,List.getD,D,F]
     . rename_i xs
       refine prv (fun e=>hno2 xs ?_) k4
       rw [<- e];simp [AO,List.getD,D,F]
     . trivial
   . have L:k=st.σ.length:=by
      have:=(List.getElem?_eq_some_iff.1 C).1
      simp [XQ] at this;omega
     subst L
     obtain rfl:b=b':=by
      rw [ã (by omega)] at z
      simpa [B] using z
     obtain rfl:cs=cs2:=by
      have:(st.σ++[cs])[st.σ.length]?=some cs2:=C
      simpa using this
     refine⟨⟨_,arr,hb,⟨.inl ⟨⟨T,rfl⟩,hm⟩,hsz⟩,fun j c F=>?_⟩,hU⟩
     obtain⟨k1,k2,k3,k4⟩:=hv j c F
     have M:j<arr.size:=by rw [hsz];exact (List.getElem?_eq_some_iff.1 F).1
     refine⟨arr.getD j Go.undef,by simp [M],k1,k2.mono (fun _ _ h=>⟨h,Kp.refl⟩) (fun k x z=>by simp at z),?_⟩
     unfold Cr
     split
     . exact absurd rfl (k3 _)
     . exact absurd rfl (k4 _)
     . trivial
 . have d:(if b'=b then none else G.Ω b')≠none:=n
   split at d
   . exact absurd rfl d
   . rename_i f
     have:=h.store.ob b' d
     refine⟨this.1,fun hm=>?_⟩
     rcases List.mem_append.1 hm with hm|hm
     . exact this.2 hm
     . exact f (by simpa using hm)
 . have E:=h.env.tag t
   show En w _ (XQ st cs) tm t (st.get t) (tm t)
   have o:∀ xs,st.get t=.sl xs .own->Loc.tmp t≠l0:=fun xs e e2=>hno xs (by rw [<- e2];exact e)
   have r:∀ xs,st.get t=.prv xs->Loc.tmp t≠l0:=fun xs e e2=>hno2 xs (by rw [<- e2];exact e)
   have s:∀ c2 i xs,st.get t=.tup c2->c2[i]?=some (.sl xs .own)->Loc.tcomp t i≠l0:=fun c2 i xs e e3 e2=>hno xs (by rw [<- e2];simp [AO,e,List.getD,e3])
   revert E o r s
   generalize st.get t=q
   intro E o r s
   cases q with
   |prv xs=>exact prv (r xs rfl) E
   |sl xs g =>
    cases g with
    |own=>exact own (o xs rfl) E
    |view m =>
     cases m with
     |cell k j =>
      obtain⟨c2,b2,e1,e2,e3,e4⟩:=E
      exact⟨c2,b2,by show (st.σ++[cs])[k]?=_;rw [Õ (List.getElem?_eq_some_iff.1 e1).1];exact e1,e2,N _ _ e3,e4⟩
     |_=>exact E
    |_=>trivial
   |tup c2 =>
    intro i xs P
    obtain⟨arr2,u,k1,k2,k3⟩:=E i xs P
    exact⟨arr2,u,k1,k2,own (s c2 i xs rfl P) k3⟩
   |_=>trivial
def XZ (st:St)(l:Loc)(xs:List (List Value))(cap m:Nat):St:=Vl.setL (XQ (Vl.setL st l .undef) (DQ xs m)) l (.asl st.σ.length 0 xs.length cap)
theorem Aaf (l:Loc)(p:PV):(Vl.setL st l p).σ.length=st.σ.length:=by
 cases l with
 |tmp t=>show (st.put (some t) p).σ.length=_;rw [Mb]
 |cell k j=>show (st.σ.set _ _).length=_;simp
 |_=>rfl
theorem Qu {xs:List (List Value)}{m sz:Nat}(hrow:∀ x∈xs,x.length=sz):(DQ xs m).length=xs.length*sz+m:=by
 simp only [DQ,Ú,Ñ,List.length_replicate,E3 xs hrow]
theorem UG {xs:List (List Value)}{m sz i j:Nat}(hrow:∀ x∈xs,x.length=sz)(hi:i<xs.length)(hj:j<(xs[i]).length):(DQ xs m)[i*sz+j]?=some (.lit xs[i][j]):=by
 have e:=Gl xs hrow i hi j hj
 have a:=(List.getElem?_eq_some_iff.1 e).1
 unfold DQ
 rw [Õ (by rw [Ñ];exact a),è,e];rfl
theorem OB {xs:List (List Value)}{m:Nat}{p:PV}(h:p∈DQ xs m):p=.undef∨∃ v,p=.lit v:=by
 unfold DQ at h
 rcases List.mem_append.1 h with h|h
 . obtain⟨v,_,rfl⟩:=List.mem_map.1 h;exact .inr ⟨v,rfl⟩
 . exact .inl (List.eq_of_mem_replicate h)
theorem Inv.thaw {xs:List (List Value)}(h:Inv w0 G0 st tm w G)(hl:Pa l=true)(hc:AO st l=.prv xs)(hne:xs≠[]) :
 ∃ cap m sz G',xs.length<=cap/\cap*sz=xs.length*sz+m/\(∀ x∈xs,x.length=sz)/\Inv w0 G0 (XZ st l xs cap m) tm w G':=by
 obtain⟨v,D,I,hT⟩:=h.getL hl hc
 have u:=Ym I
 have J:=h.setUndef (by rw [hc];rfl) (by rw [hc];simp) D u
 have g:=Mx (st:=st) hl
 rcases hT with⟨e,_⟩|⟨b,cap,sz,T,arr,rfl,hne,f,d,K,hb,⟨y,L,z⟩,M⟩
 . exact absurd e hne
 have N:xs.length*sz<=arr.size:=by rw [y];exact ô _ f.1
 have O:cap*sz=xs.length*sz+(cap*sz-xs.length*sz):=by omega
 have E:arr.size=(DQ xs (cap*sz-xs.length*sz)).length:=by rw [Qu d,y];omega
 have A:0<sz∨sz=0:=by omega
 have P:=J.addPlace (cs:=DQ xs (cap*sz-xs.length*sz)) (T:=T) K (by rw [g];simp) (by rw [g];simp) hb E (fun p R=>by
  rcases OB R with rfl|⟨v,rfl⟩<;>rfl) M (fun q c r=>by
  have S:=(List.getElem?_eq_some_iff.1 r).1
  refine⟨L q (by omega),?_,?_,?_⟩
  . by_cases B:q<xs.length*sz
    . have C:0<sz:=by rcases A with h|h;exact h;rw [h] at B;omega
      have F:q / sz<xs.length:=(Nat.div_lt_iff_lt_mul C).2 B
      have H:q % sz<(xs[q / sz]).length:=by rw [d _ (Û F)];exact Nat.mod_lt _ C
      have e:q / sz*sz+q % sz=q:=by rw [Nat.mul_comm,Nat.div_add_mod]
      have k1:=UG (m:=cap*sz-xs.length*sz) d F H
      have k2:=z _ F _ H
      rw [e] at k1 k2
      rw [r] at k1
      rw [Ag k1,k2]
      exact .lit _ _
    . have:c=.undef:=by
       unfold DQ at r
       rw [ã (by rw [Ñ,E3 xs d];omega)] at r
       exact List.eq_of_mem_replicate (Ð r)
      rw [this];exact .undef _ _
  . rcases OB (Ð r) with rfl|⟨v,rfl⟩<;>simp
  . rcases OB (Ð r) with rfl|⟨v,rfl⟩<;>simp)
 have i:G.φ.length=st.σ.length:=h.store.len
 have n:AO (XQ (Vl.setL st l .undef) (DQ xs (cap*sz-xs.length*sz))) l=.undef:=by
  cases l with
  |tmp t=>exact g
  |cell k j =>
   have s:k<st.σ.length:=by
    rw [<- i]
    obtain⟨b,s,_⟩:=D
    exact (List.getElem?_eq_some_iff.1 s).1
   have o:((Vl.setL st (.cell k j) .undef).σ.getD k []).getD j .undef=.undef:=g
   show (((Vl.setL st (.cell k j) .undef).σ++[_]).getD k []).getD j .undef=.undef
   simp only [List.getD] at o ⊢
   rw [Õ (by rw [Aaf];exact s)]
   exact o
  |_=>cases hl
 refine⟨cap,cap*sz-xs.length*sz,sz,_,f.1,O,d,P.setL (p:=.asl st.σ.length 0 xs.length cap) (v:=.slice (some ⟨b,0,none⟩) xs.length cap) ?_ (.asl _ _ _ _ _ b (by rw [<- i];simp) f.1 f.2) trivial rfl u (by rw [n];simp) (by rw [n];rfl)⟩
 cases l with
 |tmp t=>exact D
 |cell k j =>
  obtain⟨b',s,g⟩:=D
  exact⟨b',by show (G.φ++[b])[k]?=_;rw [Õ (List.getElem?_eq_some_iff.1 s).1];exact s,g⟩
 |_=>cases hl
def Wq (st:St)(n:Nat):St:={ st with σ:=st.σ.take n }
def XX (st:St)(l:Loc)(n:Nat)(xs:List (List Value)):St:=Vl.setL (Wq (Vl.setL st l .undef) n) l (.prv xs)
theorem Inv.unthaw {xs:List (List Value)}{n cap m sz:Nat}(h:Inv w0 G0 st tm w G)(hl:Pa l=true)(hc:AO st l=.asl n 0 xs.length cap)(hne:xs≠[])(hn:G0.φ.length<=n)(hk:st.σ[n]?=some (DQ xs m))(hlast:st.σ.length=n+1)
 (hrow:∀ x∈xs,x.length=sz) (hsz:cap*sz=xs.length*sz+m) (hl2:(match l with|.cell k _=>decide (k<n)|_=>true)=true)
 (hf:(∀ t,(((Vl.setL st l .undef).get t).fits n&&NW n ((Vl.setL st l .undef).get t))=true)/\E4 n ((Vl.setL st l .undef).σ.take n)=true) :
 ∃ G',Inv w0 G0 (XX st l n xs) tm w G':=by
 have J:G.φ.length=st.σ.length:=h.store.len
 obtain⟨v,H,hV⟩:∃ v,YL w G tm l v/\V w G.U G.φ (.asl n 0 xs.length cap) v:=by
  cases l with
  |tmp t =>
   have hg:st.get t=_:=hc
   have H:=h.env.v t
   rw [hg] at H
   exact⟨tm t,rfl,H⟩
  |cell k j =>
   have hc:(st.σ.getD k []).getD j .undef=.asl n 0 xs.length cap:=hc
   cases o:st.σ[k]? with
   |none=>simp [List.getD,o] at hc
   |some cs =>
    cases s:cs[j]? with
    |none=>simp [List.getD,o,s] at hc
    |some p =>
     obtain rfl:p=.asl n 0 xs.length cap:=by simpa [List.getD,o,s] using hc
     have R:=(List.getElem?_eq_some_iff.1 o).1
     have hk:G.φ[k]?=some (G.φ[k]'(by rw [J];exact R)):=Ã _
     obtain⟨⟨o',arr,O,⟨r,hsz⟩,d⟩,z⟩:=h.store.blk k _ cs hk o
     have S:NM cs:=fun q e=>by
      subst e
      match j,s with
      |0,s=>cases s;rfl
     obtain⟨T,rfl⟩:=r.cells S
     obtain⟨u,hu,P,f,Y⟩:=d j _ s
     exact⟨u,⟨_,hk,by simp only [World.cell?,O];simpa using hu⟩,f⟩
  |_=>cases hl
 cases hV with
 |asl _ _ _ _ _ b hb K C =>
 have h0:=h.setUndef (by rw [hc];rfl) (by rw [hc];simp) H rfl
 have y:=Mx (st:=st) hl
 obtain⟨⟨o',arr,O,⟨r,L⟩,d⟩,z⟩:=h.store.blk n b _ hb hk
 obtain⟨T,rfl⟩:=r.cells (fun q e=>by
  rcases OB (xs:=xs) (m:=m) (p:=q) (by rw [e];simp) with rfl|⟨v,rfl⟩<;>rfl)
 have W:b∉G.φ.take n:=fun hm=>by
  obtain⟨i,M,e⟩:=ý hm
  have hi2:i<n:=by simp at M;omega
  have e2:G.φ[i]?=some b:=by rw [<- e,List.getElem_take];exact Ã _
  have:=(List.getElem?_inj (List.getElem?_eq_some_iff.1 e2).1 h.store.nodup).1 (e2.trans hb.symm)
  omega
 have Z:G.Ω b=none:=by
  cases e:G.Ω b with
  |none=>rfl
  |some l=>exact absurd (Ð hb) (h.store.ob b (by rw [e];simp)).2
 have N:w0.heap.size<=b∨G0.Ω b≠none:=by
  obtain⟨ψ,hφ,hψ⟩:=h.ext.phi
  refine hψ b ?_
  rw [hφ,ã hn] at hb
  exact Ð hb
 have f:=h0.take0 hn hf
 have X:b<w.heap.size:=(Array.getElem?_eq_some_iff.1 O).1
 have own:∀ {l2 xs v},A0 w { G with φ:=G.φ.take n } l2 xs v->A0 w { U:=G.U,φ:=G.φ.take n,Ω:=fun b'=>if b'=b then some l else G.Ω b' } l2 xs v:=fun P=>P.to rfl fun b2 a=>by
  show (if b2=b then some l else G.Ω b2)=_
  rw [Ä (fun e=>by rw [e] at a;exact absurd (Z.symm.trans a) (by simp))];exact a
 have prv:∀ {l2 xs v},BD w { G with φ:=G.φ.take n } l2 xs v->BD w { U:=G.U,φ:=G.φ.take n,Ω:=fun b'=>if b'=b then some l else G.Ω b' } l2 xs v:=fun P=>P.to rfl fun b2 a=>by
  show (if b2=b then some l else G.Ω b2)=_
  rw [Ä (fun e=>by rw [e] at a;exact absurd (Z.symm.trans a) (by simp))];exact a
 have Y:Inv w0 G0 (Wq (Vl.setL st l .undef) n) tm w { U:=G.U,φ:=G.φ.take n,Ω:=fun b'=>if b'=b then some l else G.Ω b' }:=by
  refine⟨⟨f.ext.os,f.ext.tape,f.ext.output,f.ext.size,f.ext.frame,f.ext.cells,f.ext.newU,fun b' D=>?_,f.ext.phi⟩,⟨f.store.len,f.store.nodup,fun k b' cs hk hc=>?_,f.store.ub,fun b' D=>?_⟩,f.env.v,fun t=>?_⟩
  . have a:(if b'=b then some l else G.Ω b')≠none:=D
    by_cases e:b'=b
    . subst e;exact N
    . rw [Ä e] at a;exact f.ext.newΩ b' a
  . obtain⟨⟨o',arr',g1,⟨g2,g3⟩,g4⟩,g5⟩:=f.store.blk k b' cs hk hc
    refine⟨⟨o',arr',g1,⟨g2,g3⟩,fun j c s=>?_⟩,g5⟩
    obtain⟨v,k1,k2,k3,k4⟩:=g4 j c s
    refine⟨v,k1,k2,k3,?_⟩
    unfold Cr at k4 ⊢
    split
    . exact own k4
    . exact prv k4
    . trivial
  . have a:(if b'=b then some l else G.Ω b')≠none:=D
    by_cases e:b'=b
    . subst e;exact⟨X,W⟩
    . rw [Ä e] at a;exact f.store.ob b' a
  . have I:=f.env.tag t
    show En w _ (Wq (Vl.setL st l .undef) n) tm t ((Vl.setL st l .undef).get t) (tm t)
    revert I
    show En w _ (Wq (Vl.setL st l .undef) n) tm t ((Vl.setL st l .undef).get t) (tm t)->_
    generalize (Vl.setL st l .undef).get t=q
    intro I
    cases q with
    |prv xs=>exact prv I
    |sl xs g =>
     cases g with
     |own=>exact own I
     |view m=>cases m<;>exact I
     |_=>trivial
    |tup c2 =>
     intro i xs M
     obtain⟨arr2,u,k1,k2,k3⟩:=I i xs M
     exact⟨arr2,u,k1,k2,own k3⟩
    |_=>trivial
 have A:AO (Wq (Vl.setL st l .undef) n) l=.undef:=by
  cases l with
  |tmp t=>exact y
  |cell k j =>
   have B:((Vl.setL st (.cell k j) .undef).σ.getD k []).getD j .undef=.undef:=y
   have E:k<n:=by simpa using hl2
   show (((Vl.setL st (.cell k j) .undef).σ.take n).getD k []).getD j .undef=.undef
   simp only [List.getD] at B ⊢
   rw [Ĉ,È E]
   exact B
  |_=>cases hl
 have F:(DQ xs m).length=xs.length*sz+m:=Qu hrow
 refine⟨_,Y.setL (p:=.prv xs) (v:=.slice (some ⟨b,0,none⟩) xs.length cap) ?_ (.prv _ _ _ _) (.inr ⟨b,cap,sz,T,arr,rfl,hne,⟨K,C⟩,hrow,È rfl,O,⟨by rw [L,F,hsz],fun q hq=>?_,fun i M j s=>?_⟩,z⟩) rfl rfl (by rw [A];simp) (by rw [A];rfl)⟩
 . cases l with
   |tmp t=>exact H
   |cell k j =>
    obtain⟨b',hk,y⟩:=H
    have E:k<n:=by simpa using hl2
    exact⟨b',by show (G.φ.take n)[k]?=_;rw [Ĉ,È E];exact hk,y⟩
   |_=>cases hl
 . obtain⟨v,k1,k2,_⟩:=d q _ (Ã (by omega))
   simpa [k1] using k2
 . obtain⟨v,k1,k2,k3,_⟩:=d _ _ (UG (m:=m) hrow M s)
   have e:arr.getD (i*sz+j) Go.undef=v:=by simp [k1]
   rw [e]
   cases k3
   rfl
end
end Go.Vl
namespace Go.Sp
open Go Go.RowKit Go.Q Go.Vl
def hdC (x:List TI×St):Bool:=match N4 99 x.1 with
 |.code _::_=>true
 |_=>false
section
variable {P:Program} {L:Cf} {N:Nat} {Q:AX->St->Prop} {x:List TI×St}
theorem Ab6 {X:St->Prop}(hc:hdC x=true)(hw:Hi N x.2 X)(h:∀ s,X s->WX P L N Q (N4 99 x.1,s)):WX P L N Q x:=by
 unfold hdC at hc
 refine⟨zp (n:=99) ?_⟩
 split at hc
 . rename_i c k e
   rw [e]
   refine Hi.bind hw fun s hs=>?_
   have:=(h s hs).s
   simp only at this
   rw [e] at this
   exact this
 . cases hc
theorem pvX (l:Vl.Loc)(h:WX P L N Q (N4 99 x.1,setL (unC x.2 l) l (.prv [])))(he:(hdC x&&Pa l,AO x.2 l)=(true,.sl [] .own):=by kernel_rfl):WX P L N Q x:=by
 obtain⟨e1,e2⟩:=Ô he
 rw [Å] at e1
 exact Ab6 e1.1 (Hi.of (st2:=setL (unC x.2 l) l (.prv [])) (fun w0 G0 tm w G _ hI=>⟨G,hI.toPrv e1.2 e2⟩) rfl) fun s hs=>by subst hs;exact h
theorem poX (l:Vl.Loc)(xs:List (List Value))(h:WX P L N Q (N4 99 x.1,setL (setL x.2 l .undef) l (.sl (xs.map fun x=>x.map .lit) .own)))(he:(hdC x&&Pa l,AO x.2 l)=(true,.prv xs):=by kernel_rfl):WX P L N Q x:=by
 obtain⟨e1,e2⟩:=Ô he
 rw [Å] at e1
 exact Ab6 e1.1 (Hi.of (st2:=setL (setL x.2 l .undef) l (.sl (xs.map fun x=>x.map .lit) .own)) (fun w0 G0 tm w G _ hI=>hI.toOwn e1.2 e2) rfl) fun s hs=>by subst hs;exact h
theorem thX (l:Vl.Loc)(xs:List (List Value))(hne:xs≠[])(h:∀ cap m sz,xs.length<=cap->cap*sz=xs.length*sz+m->(∀ x∈xs,x.length=sz)->WX P L N Q (N4 99 x.1,XZ x.2 l xs cap m))
 (he:(hdC x&&Pa l,AO x.2 l)=(true,.prv xs):=by kernel_rfl):WX P L N Q x:=by
 obtain⟨e1,e2⟩:=Ô he
 rw [Å] at e1
 refine Ab6 (X:=fun s=>∃ cap m sz,xs.length<=cap/\cap*sz=xs.length*sz+m/\(∀ x∈xs,x.length=sz)/\s=XZ x.2 l xs cap m) e1.1 (fun w0 G0 tm w G _ hI=>?_) fun s hs=>?_
 . obtain⟨cap,m,sz,G',a,b,c,d⟩:=hI.thaw e1.2 e2 hne
   exact⟨_,G',⟨cap,m,sz,a,b,c,rfl⟩,d⟩
 . obtain⟨cap,m,sz,a,b,c,rfl⟩:=hs
   exact h cap m sz a b c
def Ab4 (n:Nat):Vl.Loc->Bool
 |.cell k _=>Nat.ble (k+1) n
 |_=>true
theorem unX (l:Vl.Loc)(xs:List (List Value))(n cap m:Nat){sz:Nat}(hne:xs≠[])(hsz:cap*sz=xs.length*sz+m)(hrow:∀ x∈xs,x.length=sz)(h:WX P L N Q (N4 99 x.1,XX x.2 l n xs))
 (he:((hdC x&&Pa l)&&((Nat.ble N n&&Nat.beq x.2.σ.length (n+1))&&(Ab4 n l&&((setL x.2 l .undef).env.all (fun z=>(C3 (setL x.2 l .undef).env z.1).fits n&&NW n (C3 (setL x.2 l .undef).env z.1))&&E4 n ((setL x.2 l .undef).σ.take n)))),AO x.2 l,x.2.σ[n]?)=(true,.asl n 0 xs.length cap,some (DQ xs m)):=by kernel_rfl):WX P L N Q x:=by
 simp only [É,Å] at he
 obtain⟨⟨⟨e1,e2⟩,⟨⟨e3,e4⟩,e5,e6,e7⟩⟩,e8,e9⟩:=he
 refine Ab6 e1 (Hi.of (st2:=XX x.2 l n xs) (fun w0 G0 tm w G hN hI=>hI.unthaw e2 e8 hne (ĕ hN (Ö e3)) e9 (Nat.eq_of_beq_eq_true e4) hrow hsz ?_ ⟨?_,e7⟩) rfl) fun s hs=>by subst hs;exact h
 . cases l with
   |cell k j=>exact Í (Ö e5)
   |_=>rfl
 . exact Z1 (p:=fun q=>q.fits n&&NW n q) rfl _ e6
end
structure Rl (α:Type) where
 vals:α->List Value
 n:Nat
 len:∀ x,(vals x).length=n
def Lv {α:Type}(l:List α)(i:Int)(x:α):Option (List α):=if 0<=i/\i<(l.length:Int) then some (l.set i.toNat x) else none
def gx (n:Nat)(i:Int):Option Unit:=if 0<=i/\i<(n:Int) then some () else none
theorem D7 {n:Nat}{i:Int}{u:Unit}(h:gx n i=some u):0<=i/\i<(n:Int):=by
 unfold gx at h
 split at h
 . assumption
 . cases h
section
variable {α:Type} (R:Rl α)
theorem Rl.row (l:List α):∀ x∈l.map R.vals,x.length=R.n:=fun x hx=>by
 obtain⟨y,_,rfl⟩:=List.mem_map.1 hx
 exact R.len y
theorem Aa8 {l:List α}{i:Int}{x:α}(h:gi l i=some x):0<=i/\i.toNat<l.length/\l[i.toNat]?=some x:=by
 unfold gi at h
 split at h
 . rename_i a
   exact⟨a,(List.getElem?_eq_some_iff.1 h).1,h⟩
 . cases h
theorem Ab5 {l:List α}{m i j:Nat}{x:α}{v:Value}(h:l[i]?=some x)(hv:(R.vals x)[j]?=some v):(DQ (l.map R.vals) m)[i*R.n+j]?=some (.lit v):=by
 have a:=(List.getElem?_eq_some_iff.1 h).1
 have e:(l.map R.vals)[i]'(by simpa using a)=R.vals x:=by
  rw [ë];congr 1;rw [Ã a] at h;exact Ag h
 have b:=(List.getElem?_eq_some_iff.1 hv)
 have:=UG (m:=m) (R.row l) (i:=i) (by simpa using a) (j:=j) (by rw [e];exact b.1)
 rw [this];congr 2
 simp only [e];exact b.2
theorem RV {xs:List (List Value)}{m:Nat}:∀ q∈DQ xs m,q=.undef∨∃ v,q=.lit v:=fun _ hq=>OB hq
theorem ldE {l:List α}{m:Nat}{i:Int}{x:α}(h:gi l i=some x):LdA true (DQ (l.map R.vals) m) (0+i.toNat*R.n) R.n (.agg ((R.vals x).map .lit)):=by
 obtain⟨_,e,f⟩:=Aa8 h
 have a:=Qu (m:=m) (R.row l)
 have b:(i.toNat+1)*R.n<=l.length*R.n:=ô _ e
 rw [ú,ĥ] at b
 rw [Ñ] at a
 refine⟨RV,?_⟩
 rw [È rfl,ø]
 refine⟨by omega,?_⟩
 congr 1
 refine List.ext_getElem? fun j=>?_
 rw [Ĉ,è]
 by_cases c:j<R.n
 . rw [È c,List.getElem?_drop]
   have d:(R.vals x)[j]?=some ((R.vals x)[j]'(by rw [R.len];exact c)):=Ã _
   rw [Ab5 R f d,d];rfl
 . rw [Ä c,Ġ (by rw [R.len];omega)];rfl
theorem ldF {l:List α}{m off:Nat}{i:Int}{x:α}{v:Value}(h:gi l i=some x)(hv:(R.vals x)[off]?=some v):LdA false (DQ (l.map R.vals) m) (0+i.toNat*R.n+off) 1 (.lit v):=by
 obtain⟨_,c,b⟩:=Aa8 h
 have e:=Ab5 R (m:=m) b hv
 have a:=(List.getElem?_eq_some_iff.1 e).1
 refine⟨RV,?_⟩
 rw [Ä (by simp),ø]
 exact⟨a,by rw [List.getD,e];rfl⟩
theorem VW {n:Nat}:∀ (xs:List (List Value)) (i j:Nat) (y:List Value),(∀ x∈xs,x.length=n)->i<xs.length->j+y.length<=n ->
 splice (xs.flatten.map PV.lit) (i*n+j) (y.map .lit)=((xs.set i (((xs.getD i []).take j)++y++((xs.getD i []).drop (j+y.length)))).flatten).map PV.lit
 | [],i,j,y,_,hi,_=>by simp at hi
 |x::xs,0,j,y,h,_,hj=>by
  have hx:=h x (by simp)
  unfold splice
  simp only [Nat.zero_mul,ø,List.flatten_cons,Ĥ,List.set_cons_zero,List.getD_cons_zero,Ñ]
  rw [İ (by simp;omega),ı (by simp;omega)]
  simp [List.map_take,List.map_drop,ð]
 |x::xs,i+1,j,y,h,hi,hj=>by
  have hx:=h x (by simp)
  have ih:=VW xs i j y (fun x hx=>h x (by simp [hx])) (by simpa using hi) hj
  unfold splice at ih ⊢
  simp only [List.flatten_cons,Ĥ,List.set_cons_succ,List.getD_cons_succ,Ñ] at ih ⊢
  rw [<- ih]
  have e:(i+1)*n+j=(x.map PV.lit).length+(i*n+j):=by rw [Ñ,hx,ú];omega
  rw [e,List.take_length_add_append,ĵ,List.drop_length_add_append]
  simp [ð]
theorem WR {cs ds ns:List PV}{o:Nat}(h:o+ns.length<=cs.length):splice (cs++ds) o ns=splice cs o ns++ds:=by
 unfold splice
 rw [İ (by omega),ı (by omega)]
 simp [ð]
theorem stF {l l':List α}{m off:Nat}{i:Int}{x x':α}{y:List Value}(h:gi l i=some x)(h':Lv l i x'=some l')(hy:off+y.length<=R.n)(hx:(R.vals x).take off++y++(R.vals x).drop (off+y.length)=R.vals x') :
 StA (DQ (l.map R.vals) m) (0+i.toNat*R.n+off) y.length (y.map .lit) (DQ (l'.map R.vals) m):=by
 obtain⟨f,d,g⟩:=Aa8 h
 have a:=Qu (m:=m) (R.row l)
 have c:(i.toNat+1)*R.n<=l.length*R.n:=ô _ d
 rw [ú,ĥ] at c
 rw [Ñ] at a
 obtain rfl:l.set i.toNat x'=l':=by
  unfold Lv at h'
  rw [È ⟨f,by omega⟩] at h'
  exact Ag h'
 rw [ø]
 refine⟨RV,by simp,by omega,?_⟩
 unfold DQ
 have b:=E3 (l.map R.vals) (R.row l)
 rw [Ñ] at b
 rw [WR (by rw [Ñ,Ñ,b];omega),VW (n:=R.n) _ _ _ _ (R.row l) (by simpa using d) hy]
 congr 3
 have e:(l.map R.vals).getD i.toNat []=R.vals x:=by simp [List.getD,g]
 rw [e,hx,List.map_set]
theorem stE {l l':List α}{m:Nat}{i:Int}{x':α}(h':Lv l i x'=some l'):StA (DQ (l.map R.vals) m) (0+i.toNat*R.n) R.n ((R.vals x').map .lit) (DQ (l'.map R.vals) m):=by
 have hb:0<=i/\i<(l.length:Int):=by
  unfold Lv at h'
  split at h'
  . assumption
  . cases h'
 have a:i.toNat<l.length:=by omega
 have b:gi l i=some l[i.toNat]:=by unfold gi;rw [È hb.1];exact Ã a
 have:=stF R (m:=m) (off:=0) (y:=R.vals x') b h' (by rw [R.len];omega) (by rw [List.take_zero,ê,ø,R.len,Ĕ (by rw [R.len];exact ä _),ă])
 rw [R.len,Nat.add_zero] at this
 exact this
theorem apP {b:Nat}{l z ys:List α}(hy:ys≠[])(h:CC b l ys=some z) :
 (decide (((l.map R.vals).length+(ys.map R.vals).length)*b<=140737488355328)&&(!((ys.map R.vals).isEmpty)&&((l.map R.vals).all (fun x=>x.length == R.n)&&(ys.map R.vals).all (fun x=>x.length == R.n))))=true/\PV.prv (l.map R.vals++ys.map R.vals)=.prv (z.map R.vals):=by
 unfold CC at h
 split at h
 . rename_i hb
   obtain rfl:=Ag h
   refine⟨?_,by simp⟩
   have a:∀ l:List α,(l.map R.vals).all (fun x=>x.length == R.n)=true:=fun l=>by
    rw [Ø];intro y hy;rw [ą];exact R.row l y hy
   rw [a,a]
   simp only [Ñ,Ķ,Å,Ï,å,List.isEmpty_eq_false_iff]
   exact⟨hb,by simpa using hy⟩
 . cases h
def MS (b sz n:Nat){i:Int}(h:0<=i/\i<(n:Int)):Fa:=⟨.val (.ptr b (0+i.toNat*sz)),decide (0<=i/\i<(n:Int))=true/\PV.ptr b (0+i.toNat*sz)=.ptr b (0+i.toNat*sz),Í h,rfl⟩
def WD {l:List α}(m:Nat){i:Int}{x:α}(h:gi l i=some x):Fa:=⟨.ald (.agg ((R.vals x).map .lit)),_,ldE R (m:=m) h⟩
def flf {l:List α}(m off:Nat){i:Int}{x:α}{v:Value}(h:gi l i=some x)(hv:(R.vals x)[off]?=some v):Fa:=⟨.ald (.lit v),_,ldF R (m:=m) (off:=off) h hv⟩
def fsE {l l':List α}(m:Nat){i:Int}{x':α}(h:Lv l i x'=some l'):Fa:=⟨.ast (DQ (l'.map R.vals) m),_,stE R (m:=m) h⟩
def fap {b:Nat}{l z ys:List α}(hy:ys≠[])(h:CC b l ys=some z):Fa:=⟨.val (.prv (z.map R.vals)),_,apP R hy h⟩
end
section
variable {P:Program} {L:Cf} {N:Nat} {Q:AX->St->Prop} {x:List TI×St} {α:Type}
def Aem (st:St)(l:Vl.Loc)(xs:List (List Value))(n cap m:Nat):St:=setL (XQ (setL st l .undef) (DQ xs m)) l (.asl st.σ.length 0 n cap)
theorem thR (R:Rl α)(lc:Vl.Loc)(l:List α)(n:Nat)(hn:l.length=n)(hne:l≠[])(h:∀ cap m,l.length<=cap->cap*R.n=n*R.n+m->WX P L N Q (N4 99 x.1,Aem x.2 lc (l.map R.vals) n cap m))
 (he:(hdC x&&Pa lc,AO x.2 lc)=(true,.prv (l.map R.vals)):=by kernel_rfl):WX P L N Q x:=by
 refine thX lc (l.map R.vals) (by simpa using hne) (fun cap m sz a c d=>?_) he
 obtain⟨y,r,rfl⟩:∃ y r,l=y::r:=by cases l with|nil=>exact absurd rfl hne|cons y r=>exact⟨y,r,rfl⟩
 obtain rfl:R.n=sz:=by rw [<- d (R.vals y) (by simp),R.len]
 have e:((y::r).map R.vals).length=n:=by rw [Ñ];exact hn
 have b:=h cap m (by rw [<- hn] at *;rw [Ñ] at a;exact a) (by rw [<- e];exact c)
 unfold Aem at b
 unfold XZ
 rw [e];exact b
theorem unR (R:Rl α)(lc:Vl.Loc)(l:List α)(p n cap m:Nat)(hn:l.length=n)(hne:l≠[])(hsz:cap*R.n=n*R.n+m)(h:WX P L N Q (N4 99 x.1,XX x.2 lc p (l.map R.vals)))
 (he:((hdC x&&Pa lc)&&((Nat.ble N p&&Nat.beq x.2.σ.length (p+1))&&(Ab4 p lc&&((setL x.2 lc .undef).env.all (fun z=>(C3 (setL x.2 lc .undef).env z.1).fits p&&NW p (C3 (setL x.2 lc .undef).env z.1))&&E4 p ((setL x.2 lc .undef).σ.take p)))),AO x.2 lc,x.2.σ[p]?)=(true,.asl p 0 n cap,some (DQ (l.map R.vals) m)):=by kernel_rfl):WX P L N Q x:=by
 subst hn
 have e:(l.map R.vals).length=l.length:=Ñ _
 refine unX lc (l.map R.vals) p cap m (by simpa using hne) (sz:=R.n) (by rw [e];exact hsz) (R.row l) h ?_
 rw [e];exact he
theorem poR (R:Rl α)(row:α->List PV)(lc:Vl.Loc)(l:List α)(h:WX P L N Q (N4 99 x.1,setL (setL x.2 lc .undef) lc (.sl (l.map row) .own)))(hr:∀ x,(R.vals x).map PV.lit=row x:=by intro _;rfl)
 (a:(hdC x&&Pa lc,AO x.2 lc)=(true,.prv (l.map R.vals)):=by kernel_rfl):WX P L N Q x:=by
 refine poX lc (l.map R.vals) ?_ a
 have e:(l.map R.vals).map (fun x=>x.map PV.lit)=l.map row:=by rw [List.map_map];exact List.map_congr_left fun x _=>hr x
 rw [e];exact h
theorem hwX (t:Nat)(h:WX P L N Q (N4 99 x.1,x.2.put (some t) (.mit [] [77])))(he:hdC x=true:=by kernel_rfl):WX P L N Q x :=
 Ab6 he (Hi.of (st2:=x.2.put (some t) (.mit [] [77])) (fun w0 G0 tm w G _ hI=>⟨G,by have:=hI.put t (p:=.mit [] [77]) (.mit _ _ _ (tm t)) trivial;rwa [Ig] at this⟩) rfl) fun s hs=>by subst hs;exact h
theorem Hb {l:List α}(h:l.isEmpty=false):l≠[]:=by simpa using h
theorem Tn {l:List α}(h:l.isEmpty=true):l=[]:=by simpa using h
theorem EN {l:List α}{n:Nat}(h:(l.length == n)=true):l.length=n:=by simpa using h
theorem JR {l r:List α}(h:r.length=l.length)(hl:l≠[]):r≠[]:=by rintro rfl;exact hl (î h.symm)
end
end Go.Sp
namespace Go.Vl
open Go Go.RowKit
structure T5 (b:Nat) (w w':World):Prop where
 os:w'.os=w.os
 tape:w'.tape=w.tape
 output:w'.output=w.output
 size:w.heap.size<=w'.heap.size
 same:∀ k,k<w.heap.size->k≠b->w'.heap[k]?=w.heap[k]?
structure NL (G:Gh) (b:Nat):Prop where
 phi:b∉G.φ
 own:G.Ω b=none
 noU:∀ i,¬ G.U b i
section
variable {w w' w0:World} {G G' G0:Gh} {st st':St} {tm:Nat->Value} {b c:Nat} {σ:List (List PV)} {p:PV} {v:Value} {N:Nat}
theorem T5.putObj (w:World)(b:Nat)(o:Obj):T5 b w (w.putObj b o):=⟨rfl,rfl,rfl,by simp,fun k _ h=>World.putObj_heap_other h⟩
theorem T5.alloc (w:World)(b:Nat)(o:Obj):T5 b w (w.alloc o):=⟨rfl,rfl,rfl,by simp,fun k h _=>í w o k h⟩
theorem NL.ext (h:NL G b)(hl:b<w.heap.size)(hx:Ext w G w' G'):NL G' b:=by
 obtain⟨ψ,a,c⟩:=hx.phi
 refine⟨fun hm=>?_,?_,fun i d=>?_⟩
 . rw [a] at hm
   rcases List.mem_append.1 hm with hm|hm
   . exact h.phi hm
   . rcases c b hm with k|k
     . omega
     . exact k h.own
 . cases e:G'.Ω b with
   |none=>rfl
   |some l =>
    rcases hx.newΩ b (by rw [e];simp) with k|k
    . omega
    . exact absurd h.own k
 . rcases hx.newU b i d with k|k|k
   . exact h.noU i k
   . omega
   . exact k h.own
theorem NL.same (h:NL G b)(hl:b<w.heap.size)(hx:Ext w G w' G'):w'.heap[b]?=w.heap[b]?:=hx.frame b hl h.phi h.own
theorem Az.phi_lt (h:Az w G σ)(hb:b∈G.φ):b<w.heap.size:=by
 obtain⟨k,a,c⟩:=ý hb
 have d:k<σ.length:=by rw [<- h.len];exact a
 obtain⟨⟨o,arr,e,_⟩,_⟩:=h.blk k b σ[k] (by rw [Ã a,c]) (Ã d)
 exact (Array.getElem?_eq_some_iff.1 e).1
theorem Az.fresh (h:Az w G σ)(hb:w.heap.size<=b):NL G b:=by
 refine⟨fun a=>?_,?_,fun i c=>?_⟩
 . have:=h.phi_lt a;omega
 . cases e:G.Ω b with
   |none=>rfl
   |some l=>have:=(h.ob b (by rw [e];simp)).1;omega
 . have:=h.ub b i c;omega
theorem V.but (hs:Az w G σ)(hu:NL G b)(hb:T5 b w w'){φ:List Nat}(h:V w G.U φ p v):V w' G.U φ p v :=
 h.mono (fun b2 i hu2=>⟨hu2,Kp.of (hb.same b2 (hs.ub b2 i hu2) (fun e=>hu.noU i (e ▸ hu2)))⟩) (fun _ _ h=>h)
theorem My (hs:Az w G σ)(hu:NL G b)(hb:T5 b w w'){l:Loc}:∀ b2,G.Ω b2=some l->G.Ω b2=some l/\w'.heap[b2]?=w.heap[b2]?/\∀ i,G.U b2 i->G.U b2 i:=fun b2 h =>
 ⟨h,hb.same b2 (hs.ob b2 (by rw [h];simp)).1 (fun e=>by rw [e,hu.own] at h;cases h),fun _ h=>h⟩
theorem Az.but (h:Az w G σ)(hu:NL G b)(hb:T5 b w w'):Az w' G σ:=by
 refine⟨h.len,h.nodup,fun k b1 cs m p=>?_,fun b1 i f=>ù (h.ub b1 i f) hb.size,fun b1 hB=>⟨ù (h.ob b1 hB).1 hb.size,(h.ob b1 hB).2⟩⟩
 obtain⟨⟨T,arr,n,o,q⟩,r⟩:=h.blk k b1 cs m p
 have g:b1<w.heap.size:=(Array.getElem?_eq_some_iff.1 n).1
 have l:b1≠b:=fun e=>hu.phi (e ▸ Ð m)
 refine⟨⟨T,arr,(hb.same b1 g l).trans n,⟨o.1.mono (fun b2 i a=>⟨a,Kp.of (hb.same b2 (h.ub b2 i a) (fun e=>hu.noU i (e ▸ a)))⟩),o.2⟩,fun j c s=>?_⟩,r⟩
 obtain⟨v,t,u,x,d⟩:=q j c s
 refine⟨v,t,u,x.but h hu hb,?_⟩
 unfold Cr at d ⊢
 split
 . exact A0.keep d (My h hu hb)
 . exact BD.keep d (My h hu hb)
 . trivial
theorem I8.but (hs:Az w G st.σ)(h:I8 w G st tm)(hu:NL G b)(hb:T5 b w w'):I8 w' G st tm:=by
 refine⟨fun t=>(h.v t).but hs hu hb,fun t=>?_⟩
 have a:=h.tag t
 revert a
 generalize st.get t=p
 generalize tm t=v
 intro a
 cases p with
 |sl xs g=>cases g with
  |own=>exact A0.keep (show A0 w G (.tmp t) xs v from a) (My hs hu hb)
  |view l=>cases l with
   |cell k j =>
    obtain⟨cs,b1,f,m,c,n⟩:=a
    have d:=Ð c
    exact⟨cs,b1,f,m,c,(Đ (w:=w) (hb.same b1 (hs.phi_lt d) (fun e=>hu.phi (e ▸ d)))).trans n⟩
   |_=>exact a
  |_=>trivial
 |prv xs=>exact BD.keep (show BD w G (.tmp t) xs v from a) (My hs hu hb)
 |tup cs =>
  intro i xs o
  obtain⟨arr,u,k1,k2,k3⟩:=a i xs o
  exact⟨arr,u,k1,k2,A0.keep k3 (My hs hu hb)⟩
 |_=>trivial
theorem Ext.but (h:Ext w0 G0 w G)(hs:Az w G σ)(hu:NL G b)(hn:w0.heap.size<=b∨b∈G0.φ∨G0.Ω b≠none)(hb:T5 b w w'):Ext w0 G0 w' G:=by
 refine⟨hb.os.trans h.os,hb.tape.trans h.tape,hb.output.trans h.output,ĕ h.size hb.size,fun k c d f=>?_,fun b2 i a=>?_,h.newU,h.newΩ,h.phi⟩
 . rw [hb.same k (ù c h.size) ?_,h.frame k c d f]
   rintro rfl
   rcases hn with k1|k1|k1
   . omega
   . exact d k1
   . exact k1 f
 . obtain⟨k1,k2⟩:=h.cells b2 i a
   exact⟨k1,k2.trans (Kp.of (hb.same b2 (hs.ub b2 i k1) (fun e=>hu.noU i (e ▸ k1))))⟩
theorem Inv.but (h:Inv w0 G0 st tm w G)(hu:NL G b)(hn:w0.heap.size<=b∨b∈G0.φ∨G0.Ω b≠none)(hb:T5 b w w'):Inv w0 G0 st tm w' G :=
 ⟨h.ext.but h.store hu hn hb,h.store.but hu hb,h.env.but h.store hu hb⟩
def Gh.reb (G:Gh)(N:Nat):Gh:={ U:=G.U,φ:=G.φ.take N,Ω:=fun b=>if b∈G.φ.drop N then some (.tmp 0) else G.Ω b }
theorem Aal:Ext w (G.reb N) w G:=by
 refine⟨rfl,rfl,rfl,ä _,fun _ _ _ _=>rfl,fun _ _ h=>⟨h,Kp.refl⟩,fun _ _ h=>.inl h,fun b hb=>.inr ?_,G.φ.drop N,(ğ N G.φ).symm,fun b hb=>.inr ?_⟩
 . show (if b∈G.φ.drop N then some (Loc.tmp 0) else G.Ω b)≠none
   split
   . simp
   . exact hb
 . show (if b∈G.φ.drop N then some (Loc.tmp 0) else G.Ω b)≠none
   rw [È hb];simp
theorem Ext.drop_new (h:Ext w0 G0 w G)(hN:G0.φ.length<=N)(hb:b∈G.φ.drop N):w0.heap.size<=b∨G0.Ω b≠none:=by
 obtain⟨ψ,a,c⟩:=h.phi
 rw [a,List.drop_append,Ĕ hN,ê] at hb
 exact c b (á hb)
theorem Ext.reb (h:Ext w0 G0 w G)(hN:G0.φ.length<=N):Ext w0 G0 w (G.reb N):=by
 refine⟨h.os,h.tape,h.output,h.size,h.frame,h.cells,h.newU,fun b hb=>?_,?_⟩
 . change (if b∈G.φ.drop N then some (Loc.tmp 0) else G.Ω b)≠none at hb
   split at hb
   . rename_i a;exact h.drop_new hN a
   . exact h.newΩ b hb
 . obtain⟨ψ,c,d⟩:=h.phi
   refine⟨ψ.take (N-G0.φ.length),?_,fun b hb=>d b (Ă hb)⟩
   show G.φ.take N=_
   rw [c,List.take_append,List.take_of_length_le hN]
theorem CK.reb (h:CK w G):CK w (G.reb N):=by
 refine⟨h.1,fun b hb=>?_⟩
 obtain⟨d,c,e⟩:=h.2 b hb
 refine⟨d,fun a=>c (Ă a),?_⟩
 show (if b∈G.φ.drop N then some (Loc.tmp 0) else G.Ω b)=none
 rw [Ä (fun a=>c (á a))];exact e
theorem NL.reb (h:NL G b):NL (G.reb N) b:=by
 refine⟨fun a=>h.phi (Ă a),?_,h.noU⟩
 show (if b∈G.φ.drop N then some (Loc.tmp 0) else G.Ω b)=none
 rw [Ä (fun a=>h.phi (á a))];exact h.own
end
end Go.Vl
namespace Go.Vl
open Go Go.RowKit
def Iter (P:Program)(gf:FuncId)(lb:Array Value)(ba:Nat)(H:World->Prop)(xs:List Int):Prop :=
 ∀ W:World,H W->∀ (l:Nat) (J Jx:List Int->World->Prop),
  (∀ s A B,J s A->T5 ba A B->J s B)->(∀ s A B,Jx s A->T5 ba A B->Jx s B) ->
  (∀ pre x W1,J pre W1->pre++[x] <+: xs->YieldAt (Gv none) 0 P l #[.int .i64 x] W1 fun e W' =>
   (e=.returned (.bool true)/\J (pre++[x]) W'/\W'.heap[ba]?=W1.heap[ba]?)∨(e=.returned (.bool false)/\Jx (pre++[x]) W')) ->
  J [] W ->
  CallsIn (Gv none) 0 P gf (#[.func (.yield l) #[] #[]]++lb) W fun e W'=>(∃ v,e=.returned v)/\(J xs W'∨∃ pre,Jx pre W')
abbrev LW (z:Int):List Value:=[.int .i64 z]
def Acp (P:Program)(gf:FuncId)(zs xs:List Int):Prop :=
 ∀ (b0 ba cap:Nat) (T Ta:TypeId) (arr:Array Value),b0≠ba->zs.length<=cap->cap<=9223372036854775807->(∀ i (h:i<zs.length),arr[i]?=some (.int .i64 zs[i])) ->
  Iter P gf #[.pointer (some ⟨b0,0,none⟩)] ba (fun W=>W.heap[b0]?=some (.cells #[.slice (some ⟨ba,0,none⟩) zs.length cap] T (0,0))/\W.heap[ba]?=some (.cells arr Ta (0,0))) xs
def Rnd (m:Nat)(X:List (List PV)->Prop)(st:St):Prop:=Hi m st fun st2=>E4 m (st2.σ.take m)=true/\X (st2.σ.take m)
def WA (m:Nat)(env0:List (Nat×PV))(I:List (List PV)->Prop)(KA:AX->St->Prop)(x:AX)(st:St):Prop :=
 match x with
 |.normal=>Rnd m I st
 |.pan _=>False
 |x=>Rnd m (fun σ=>KA x ⟨env0,σ⟩) st
def Aco (P:Program)(L:Cf)(N:Nat)(g:Operand)(ps:Array Tmp)(assign body:Code)(KA:AX->St->Prop)(st:St):Prop :=
 ∃ (m gf tv:Nat) (σm:List (List PV)) (env0:List (Nat×PV)) (zs xs:List Int) (I:List Int->List (List PV)->Prop),
  (st.σ=σm++[[.prv (zs.map LW)]]/\σm.length=m/\N<=m/\E4 m σm=true/\zs≠[]) /\
  (C5 st g=.fn gf [.ptr m 0]/\JB P gf=true/\ps = #[tv]/\Acp P gf zs xs) /\
  (∀ t,C3 env0 t=.undef∨(C3 env0 t=st.get t/\plain (st.get t)=true/\(st.get t).fits m=true)) /\
  (I [] σm/\∀ pre σ',I pre σ'->σ'.length=m) /\
  (∀ pre x σ',I pre σ'->pre++[x] <+: xs->WS P L m [.code assign] (fun ax st2=>ax=.normal/\st2.σ.length=m/\WS P L m [.code body] (WA m env0 (I (pre++[x])) KA) st2) ⟨(tv,.lit (.int .i64 x))::env0,σ'⟩) /\
  ∀ σ',I xs σ'->KA .normal ⟨env0,σ'⟩
def Aeq:Code->Option AX
 |.ret=>some .ret
 |.exit id=>some (.exit id)
 |_=>none
def O6 (D:Nat):Deferred:={ target:=.collected D,args:=#[] }
structure Over (w0:World) (G0:Gh) (a:Act) (D:Nat) (st:St) (w:World) (G:Gh):Prop where
 inv:Inv w0 G0 st (AG a) w G
 unc:NL G D
 lt:D<w.heap.size
 ge:w0.heap.size<=D
 is:w.heap[D]?=some (.deferred (some []))
section
variable {w w' w0:World} {G G' G0:Gh} {P:Program} {st st':St} {a:Act} {n N:Nat} {L:Cf} {KA:AX->St->Prop} {Q:Exit->Act->World->Prop}
def Gh.lose (G:Gh)(m ba:Nat):Gh:={ U:=G.U,φ:=G.φ.take m,Ω:=fun b=>if b=ba then none else G.Ω b }
theorem Tp {m ba:Nat}{σm:List (List PV)}{c1:List PV}(h:Inv w0 G0 st (AG a) w G)(hσ:st.σ=σm++[c1])(hm:σm.length=m)(hN:G0.φ.length<=m)(hf:E4 m σm=true)(hba:G.Ω ba=some (.cell m 0)){env0:List (Nat×PV)}
 (he:∀ t,C3 env0 t=.undef∨(C3 env0 t=st.get t/\plain (st.get t)=true/\(st.get t).fits m=true)):Inv w0 G0 ⟨env0,σm⟩ (AG a) w (G.lose m ba):=by
 have g:st.σ.take m=σm:=by rw [hσ,List.take_left' hm]
 have l:∀ b,(G.lose m ba).Ω b≠none->G.Ω b≠none:=fun b hb=>by
  change (if b=ba then none else G.Ω b)≠none at hb
  split at hb
  . exact absurd rfl hb
  . exact hb
 refine⟨?_,?_,⟨fun t=>?_,fun t=>?_⟩⟩
 . have d:=h.ext
   refine⟨d.os,d.tape,d.output,d.size,d.frame,d.cells,d.newU,fun b hb=>d.newΩ b (l b hb),?_⟩
   obtain⟨ψ,o,p⟩:=d.phi
   refine⟨ψ.take (m-G0.φ.length),?_,fun b hb=>p b (Ă hb)⟩
   show G.φ.take m=_
   rw [o,List.take_append,List.take_of_length_le hN]
 . have hs:=h.store.take (N:=m) (by rw [g];exact hf)
   rw [g] at hs
   refine⟨hs.len,hs.nodup,fun k b cs q n=>?_,hs.ub,fun b hb=>hs.ob b (l b hb)⟩
   obtain⟨⟨T,arr,r,s,u⟩,x⟩:=hs.blk k b cs q n
   have C:k<m:=by rw [<- hm];exact (List.getElem?_eq_some_iff.1 n).1
   have keep:∀ (j:Nat) (b2:Nat),G.Ω b2=some (.cell k j)->(G.lose m ba).Ω b2=some (.cell k j)/\w.heap[b2]?=w.heap[b2]?/\∀ i,(G.lose m ba).U b2 i->G.U b2 i:=fun j b2 e=>by
    refine⟨?_,rfl,fun _ h=>h⟩
    show (if b2=ba then none else G.Ω b2)=_
    rw [Ä,e]
    rintro rfl
    rw [hba] at e
    cases e;omega
   refine⟨⟨T,arr,r,s,fun j c y=>?_⟩,x⟩
   obtain⟨v,z,A,B,f⟩:=u j c y
   refine⟨v,z,A,B,?_⟩
   unfold Cr at f ⊢
   split
   . exact A0.keep (G:=G) f (keep j)
   . exact BD.keep (G:=G) f (keep j)
   . trivial
 . show V w G.U (G.φ.take m) (C3 env0 t) _
   rcases he t with k|⟨k1,_,k3⟩
   . rw [k];exact .undef _ _
   . rw [k1];exact (h.env.v t).fits k3
 . show En _ _ _ _ t (C3 env0 t) _
   rcases he t with k|⟨k1,k2,_⟩
   . rw [k];trivial
   . rw [k1];exact EL k2 _ _ _ _
theorem WU {m:Nat}{σm:List (List PV)}{zs:List Int}(h:Az w G st.σ)(hσ:st.σ=σm++[[.prv (zs.map LW)]])(hm:σm.length=m)(hz:zs≠[]) :
 ∃ b0 ba cap T Ta,∃ arr:Array Value,G.φ[m]?=some b0/\G.Ω ba=some (.cell m 0)/\(∀ i,¬ G.U ba i)/\b0≠ba/\zs.length<=cap/\cap<=9223372036854775807/\(∀ i (h:i<zs.length),arr[i]?=some (.int .i64 zs[i])) /\
  w.heap[b0]?=some (.cells #[.slice (some ⟨ba,0,none⟩) zs.length cap] T (0,0))/\w.heap[ba]?=some (.cells arr Ta (0,0)):=by
 have l:=h.len
 rw [hσ] at l
 simp only [Ú,à,ö,hm] at l
 have b:G.φ[m]?=some (G.φ[m]'(by omega)):=Ã _
 revert b
 generalize (G.φ[m]'(by omega))=b0
 intro b
 have s0:st.σ[m]?=some [.prv (zs.map LW)]:=by rw [hσ,ã (by omega),hm];simp
 obtain⟨⟨o0,arr0,k1,⟨k2,k3⟩,k4⟩,_⟩:=h.blk m b0 _ b s0
 have c0:∃ T,o0=.cells arr0 T (0,0):=by
  rcases k2 with k2|⟨kvs,es,c,k2,_⟩|⟨kvs,seen,k2,_⟩
  . exact k2.1
  . cases k2
  . cases k2
 obtain⟨T,rfl⟩:=c0
 obtain⟨v,v1,v2,v3,v4⟩:=k4 0 _ rfl
 have v5:BD w G (.cell m 0) (zs.map LW) v:=v4
 rcases v5 with⟨e1,_⟩|⟨ba,cap,sz,Ta,arr,rfl,o,⟨d,f⟩,g,n,a,⟨p,q,j⟩,r⟩
 . exact absurd (List.map_eq_nil_iff.1 e1) hz
 have k:sz=1:=by
  cases zs with
  |nil=>exact absurd rfl hz
  |cons z zs=>have:=g (LW z) (by simp);exact this.symm
 subst k
 rw [Ñ] at d v1
 refine⟨b0,ba,cap,T,Ta,arr,b,n,r,?_,d,f,fun i s=>?_,?_,a⟩
 . rintro rfl
   exact (h.ob _ (by rw [n];simp)).2 (Ð b)
 . have:=j i (by simpa using s) 0 (by simp)
   rw [Nat.mul_one,Nat.add_zero] at this
   have e:i<arr.size:=by omega
   rw [Ê,æ e] at this
   rw [æ e]
   simp at this
   rw [this]
 . rw [k1]
   have hz:arr0 = #[.slice (some ⟨ba,0,none⟩) zs.length cap]:=by
    have t:arr0.size=1:=k3
    apply Array.ext'
    have:arr0.toList.length=1:=t
    match u:arr0.toList,this with
    | [x],_ =>
     have:arr0[0]?=some x:=by rw [<- ċ,u];rfl
     rw [v1] at this
     obtain rfl:=Ag this
     rfl
   rw [hz]
theorem V0 (hgl:CK w0 G0)(hm:P.follows .mixedOrders=true)(hN:G0.φ.length<=N){g:Operand}{ps:Array Tmp}{assign body:Code}(hok:Cv L.pl n assign=true/\Cv L.pl n body=true)
 (hnd:Dz assign=true/\Dz body=true) (htv:∀ t∈ps.toList,t<n) (h:Inv w0 G0 st (AG a) w G) (hs:a.tmps.size=n) (hr:Aco P L N g ps assign body KA st)
 (hdone:∀ D st' w' G',Over w0 G0 a D st' w' G'->KA .normal st'->Q .normal { a with defers:=O6 D::a.defers } w')
 (hstop:∀ D c x st' w' G',Aeq c=some x->Over w0 G0 a D st' w' G'->KA x st'->c.wpIn (Gv none) 0 P Q { a with defers:=O6 D::a.defers } w') :
 (Code.rangeFunc g ps assign body).wpIn (Gv none) 0 P Q a w:=by
 obtain⟨m,gf,tv,σm,env0,zs,xs,I,⟨hσ,hml,hNm,hfit,hzne⟩,⟨hg,hct,rfl,hit⟩,S,⟨hI0,hIl⟩,hround,hfin⟩:=hr
 have htv:tv<n:=htv tv (by simp)
 have hN2:G0.φ.length<=m:=by omega
 obtain⟨b0,ba,cap,T,Ta,arr,hb0,hba,hbaU,hne,hc,hcm,harr,hw0,hwa⟩:=WU h.store hσ hml hzne
 have hgv:a.eval g=.func (.func gf) #[] #[.pointer (some ⟨b0,0,none⟩)]:=by
  have hv:=B4 (a:=a) h.env g
  rw [hg] at hv
  revert hv;generalize a.eval g=z;intro hv
  cases hv with
  |fn _ _ _ arrc hn hcaps =>
   have h1:=hcaps 0 (by simp)
   have e1:arrc = #[arrc.getD 0 Go.undef]:=by
    apply Array.ext
    . simpa using hn
    . intro i h1 h2
      have:i=0:=by simp at h2;exact h2
      subst this
      simp [Array.getD,h1]
   have h2:arrc.getD 0 Go.undef=.pointer (some ⟨b0,0,none⟩):=by
    revert h1;generalize arrc.getD 0 Go.undef=z;intro h1
    cases h1 with
    |ptr _ _ _ k R=>rw [hb0] at R;obtain rfl:=Ag R;rfl
   rw [e1,h2]
 have hd:=Tp h hσ hml hN2 hfit hba S
 have Y:=h.store.len
 rw [hσ] at Y
 simp only [Ú,à,ö,hml] at Y
 have F:=h.store.ob ba (by rw [hba];simp)
 have hba_lt:ba<w.heap.size:=F.1
 have hua:NL (G.lose m ba) ba:=⟨fun hmem=>F.2 (Ă hmem),by show (if ba=ba then none else G.Ω ba)=none;rw [È rfl],hbaU⟩
 have hban:w0.heap.size<=ba∨ba∈G0.φ∨G0.Ω ba≠none:=by
  rcases h.ext.newΩ ba (by rw [hba];simp) with k|k
  . exact .inl k
  . exact .inr (.inr k)
 refine wpIn_rangeFunc ?_
 intro fn hfn
 obtain⟨rec,j⟩:∃ rec:LoopState->Option Code->Loop,rec=fun st pe=>{ state:=st,pending:=pe,fn,tmps:=a.tmps,params:=#[tv],assign,body,defers:=w.heap.size }:=⟨_,rfl⟩
 obtain⟨D,hD⟩:∃ D,D=w.heap.size:=⟨_,rfl⟩
 obtain⟨W1,Z⟩:∃ W1,(w.alloc (.deferred (some []))).alloc (.loop (rec .ready none))=W1:=⟨_,rfl⟩
 have hbut1:T5 D w (w.alloc (.deferred (some []))):=.alloc _ _ _
 have hbut2:T5 (D+1) (w.alloc (.deferred (some []))) W1:=by rw [<- Z];exact .alloc _ _ _
 have hs1:W1.heap.size=w.heap.size+2:=by rw [<- Z];simp
 have hL1:W1.heap[D+1]?=some (.loop (rec .ready none)):=by
  rw [<- Z,hD];have:=World.alloc_heap_new (w.alloc (.deferred (some []))) (.loop (rec .ready none));rwa [World.size_alloc] at this
 have hK1:W1.heap[D]?=some (.deferred (some [])):=by
  rw [<- Z,hD];exact (í _ _ _ (by simp)).trans (World.alloc_heap_new w _)
 have hge:w0.heap.size<=D:=by rw [hD];exact h.ext.size
 have huD:NL (G.lose m ba) D:=hd.store.fresh (by omega)
 have huL:NL (G.lose m ba) (D+1):=hd.store.fresh (by omega)
 have hinv1:Inv w0 G0 ⟨env0,σm⟩ (AG a) W1 (G.lose m ba):=(hd.but huD (.inl hge) hbut1).but huL (.inl (by omega)) hbut2
 have hold:∀ k,k<w.heap.size->W1.heap[k]?=w.heap[k]?:=fun k R=>by rw [hbut2.same k (by simp;omega) (by omega),hbut1.same k R (by omega)]
 obtain⟨J,hJ⟩:∃ J:List Int->World->Prop,J=fun pre W=>∃ σ' G',I pre σ'/\Inv w0 G0 ⟨env0,σ'⟩ (AG a) W G'/\NL G' ba/\NL G' (D+1)/\NL G' D/\ba<W.heap.size/\W.heap[D+1]?=some (.loop (rec .ready none))/\W.heap[D]?=some (.deferred (some [])):=⟨_,rfl⟩
 obtain⟨Jx,hJx⟩:∃ Jx:List Int->World->Prop,Jx=fun _ W=>∃ c x σ' G',Aeq c=some x/\KA x ⟨env0,σ'⟩/\Inv w0 G0 ⟨env0,σ'⟩ (AG a) W G'/\NL G' ba/\NL G' (D+1)/\NL G' D/\ba<W.heap.size/\W.heap[D+1]?=some (.loop (rec .done (some c)))/\W.heap[D]?=some (.deferred (some [])):=⟨_,rfl⟩
 have p:ba≠D/\ba≠D+1:=by omega
 have step:∀ {A B:World},T5 ba A B->∀ {k:Nat} {o:Obj},k≠ba->A.heap[k]?=some o->B.heap[k]?=some o:=fun hb k o R ho=>(hb.same k (Array.getElem?_eq_some_iff.1 ho).1 R).trans ho
 refine⟨D+1,[O6 D],W1,{ target:=.fn (.func gf) #[.pointer (some ⟨b0,0,none⟩)],args:=#[.func (.yield (D+1)) #[] #[]] },W1,gf,#[.func (.yield (D+1)) #[] #[]]++#[.pointer (some ⟨b0,0,none⟩)],W1,?_,?_,fun _ _=>trivial,?_,L4,?_⟩
 . rw [<- Z,j,hD];exact run_enterLoop_outer _ _ _ _ _
 . simp only [resolve,hgv]
   simp [go_sem]
 . simp [invoke,go_sem,Kq hct]
 refine ((hit b0 ba cap T Ta arr hne hc hcm harr) W1 ⟨(hold b0 (Array.getElem?_eq_some_iff.1 hw0).1).trans hw0,(hold ba hba_lt).trans hwa⟩ (D+1) J Jx ?_ ?_ ?_ ?_).mono ?_
 . intro s A B hA hb
   rw [hJ] at hA ⊢
   obtain⟨σ',G',h1,h2,h3,h4,h5,h6,h7,h8⟩:=hA
   exact⟨σ',G',h1,h2.but h3 hban hb,h3,h4,h5,ù h6 hb.size,step hb (ġ p.2) h7,step hb (ġ p.1) h8⟩
 . intro s A B hA hb
   rw [hJx] at hA ⊢
   obtain⟨c,x,σ',G',h0,h1,h2,h3,h4,h5,h6,h7,h8⟩:=hA
   exact⟨c,x,σ',G',h0,h1,h2.but h3 hban hb,h3,h4,h5,ù h6 hb.size,step hb (ġ p.2) h7,step hb (ġ p.1) h8⟩
 . -- one round
   intro pre x W hA hpre
   rw [hJ] at hA
   obtain⟨σ',G',hI,b,H,q,u,K,hl,R⟩:=hA
   have hllt:D+1<W.heap.size:=(Array.getElem?_eq_some_iff.1 hl).1
   have hy:=run_yield (P:=P) (args:=#[.int .i64 x]) hl (by rw [j];rfl)
   rw [j] at hy
   have hy2:(Instr.yield (D+1) #[.int .i64 x]).run P W=.ok (.round (D+1) fn (a.tmps.setIfInBounds tv (.int .i64 x)) assign body) W:=by simpa using hy
   refine⟨fn,_,assign,body,hy2,roundIn_of_wpIn hfn ?_⟩
   obtain⟨a0,ha0⟩:∃ a0:Act,a0 = { tmps:=a.tmps.setIfInBounds tv (.int .i64 x),defers:=[] }:=⟨_,rfl⟩
   have htm:∀ t,AG a0 t=if tv=t then .int .i64 x else AG a t:=fun t=>by
    have:=congrFun (Bo (a:=a) (d:=tv) (by omega) (.int .i64 x)) t
    rw [ha0];exact this
   have hlenm:G'.φ.length<=m:=by have:=b.store.len;have h2:=hIl pre σ' hI;simp only at this;omega
   have hinv0:Inv W G' ⟨(tv,.lit (.int .i64 x))::env0,σ'⟩ (AG a0) W G':=by
    refine⟨Ext.refl _ _,b.store,⟨fun t=>?_,fun t=>?_⟩⟩
    . rw [htm]
      show V W G'.U G'.φ (if tv=t then _ else C3 env0 t) _
      split
      . exact .lit _ _
      . exact b.env.v t
    . show En _ _ _ _ t (if tv=t then _ else C3 env0 t) _
      split
      . trivial
      . rcases S t with k|⟨k1,k2,_⟩
        . rw [k];trivial
        . rw [k1];exact EL k2 _ _ _ _
   obtain⟨stA,GA,hWA,hinvA⟩:=hround pre x σ' hI hpre W G' (AG a0) W G' hlenm hinv0
   have hsz0:a0.tmps.size=n:=by rw [ha0];simpa using hs
   have hgoal:=Sa (P:=P) (L:=L) (r:=some (D+1)) (ds:=[]) (hgl.ext b.ext) hm hlenm assign _ stA a0 W GA hok.1 (fun _=>hnd.1) hinvA (by rw [ha0]) hsz0 hWA
   rw [ha0] at hgoal
   refine wpIn_mono hgoal ?_
   rintro e1 a1 W2 M
   cases e1 with
   |normal =>
    obtain⟨hsz1,hd1,st2,G2,⟨_,hl2,hbody⟩,e⟩:=M
    have C:=e.ext
    have hl2':W2.heap[D+1]?=some (.loop (rec .ready none)):=(q.same hllt C).trans hl
    have y:=q.ext hllt C
    have hba2:=(H.same K C)
    have hua2:=H.ext K C
    have hDlt:D<W.heap.size:=by omega
    have hk2:=(u.same hDlt C).trans R
    have huD2:=u.ext hDlt C
    obtain⟨W3,O⟩:∃ W3,W3=W2.putObj (D+1) (.loop { rec .ready none with state:=.busy }):=⟨_,rfl⟩
    have hb3:T5 (D+1) W2 W3:=by rw [O];exact .putObj _ _ _
    have hx3:Ext w0 G0 W3 G2:=(b.ext.trans C).but e.store y (.inl (by omega)) hb3
    have inv3:Inv W3 G2 st2 (AG a1) W3 G2:=⟨Ext.refl _ _,e.store.but y hb3,e.env.but e.store y hb3⟩
    have hs32:W2.heap.size=W3.heap.size:=by rw [O];simp
    have hs2:=C.size
    have hl3:W3.heap[D+1]?=some (.loop { rec .ready none with state:=.busy }):=by rw [O];exact World.putObj_heap_same (by omega)
    have hk3:W3.heap[D]?=some (.deferred (some [])):=by rw [O,World.putObj_heap_other (by omega)];exact hk2
    have hba3:W3.heap[ba]?=W.heap[ba]?:=by rw [O,World.putObj_heap_other p.2];exact hba2
    have hlen2:G2.φ.length=m:=by rw [e.store.len];exact hl2
    refine⟨W3,by rw [O];exact run_beginRound hl2' (by rw [j]),?_⟩
    obtain⟨stB,GB,hWB,hinvB⟩:=hbody W3 G2 (AG a1) W3 G2 (by omega) inv3
    refine wpIn_mono (Sa (P:=P) (L:=L) (r:=some (D+1)) (ds:=[]) (hgl.ext hx3) hm (Ć hlen2) body _ stB a1 W3 GB hok.2 (fun _=>hnd.2) hinvB hd1 hsz1 hWB) ?_
    rintro e3 a3 W4 M
    have fin:∀ (X:List (List PV)->Prop) (st3:St) (G3:Gh) (jump:Option Code),Rnd m X st3->Inv W3 G2 st3 (AG a3) W4 G3->∃ σ'' G5 W5,X σ''/\(Instr.endRound (D+1) jump).run P W4=.ok (.bool jump.isNone) W5/\Inv w0 G0 ⟨env0,σ''⟩ (AG a) W5 G5/\NL G5 ba/\NL G5 (D+1)/\NL G5 D /\
     ba<W5.heap.size/\W5.heap[D+1]?=some (.loop (rec (if jump.isNone then .ready else .done) jump))/\W5.heap[D]?=some (.deferred (some []))/\W5.heap[ba]?=W.heap[ba]?:=by
     intro X st3 G3 jump hX f
     obtain⟨st4,G4,⟨hf4,hX4⟩,hinv4⟩:=hX W3 G2 (AG a3) W4 G3 (by omega) f
     have E:=hinv4.ext.take hlen2
     have hs4:=hinv4.store.take hf4
     have hl4:W4.heap[D+1]?=some (.loop { rec .ready none with state:=.busy }):=(y.same (by omega) E).trans hl3
     have hul4:=y.ext (by omega) E
     have hua4:=hua2.ext (by omega) E
     have huD4:=huD2.ext (by omega) E
     have hk4:=(huD2.same (by omega) E).trans hk3
     have hba4:=(hua2.same (by omega) E).trans hba3
     have hz4:=E.size
     have l:=run_endRound (P:=P) jump hl4
     refine⟨_,_,W4.putObj (D+1) (.loop (rec (if jump.isNone then .ready else .done) jump)),hX4,by rw [j] at l ⊢;exact l,?_,hua4,hul4,huD4,by simp;omega,World.putObj_heap_same (by omega),by rw [World.putObj_heap_other (by omega)];exact hk4,by rw [World.putObj_heap_other p.2];exact hba4⟩
     have hinv5:Inv w0 G0 ⟨env0,st4.σ.take m⟩ (AG a) W4 { G4 with φ:=G4.φ.take m }:=by
      refine⟨hx3.trans E,hs4,⟨fun t=>?_,fun t=>?_⟩⟩
      . exact E.V ((C.V (b.env.v t)).but e.store y hb3)
      . show En _ _ _ _ t (C3 env0 t) _
        rcases S t with k|⟨k1,k2,_⟩
        . rw [k];trivial
        . rw [k1];exact EL k2 _ _ _ _
     exact hinv5.but hul4 (.inl (by omega)) (.putObj _ _ _)
    cases e3 with
    |normal =>
     obtain⟨_,_,st3,G3,hX,f⟩:=M
     obtain⟨σ'',G5,W5,k1,k2,k3,k4,k5,k6,k7,k8,k9,k10⟩:=fin _ st3 G3 none hX f
     exact⟨_,_,k2,.inl ⟨rfl,by rw [hJ];exact⟨σ'',G5,k1,k3,k4,k5,k6,k7,k8,k9⟩,k10⟩⟩
    |ret =>
     obtain⟨_,_,st3,G3,hX,f⟩:=M
     obtain⟨σ'',G5,W5,k1,k2,k3,k4,k5,k6,k7,k8,k9,k10⟩:=fin (fun σ=>KA .ret ⟨env0,σ⟩) st3 G3 (some .ret) hX f
     exact⟨_,_,k2,.inr ⟨rfl,by rw [hJx];exact⟨.ret,.ret,σ'',G5,rfl,k1,k3,k4,k5,k6,k7,k8,k9⟩⟩⟩
    |exit id =>
     obtain⟨_,_,st3,G3,hX,f⟩:=M
     obtain⟨σ'',G5,W5,k1,k2,k3,k4,k5,k6,k7,k8,k9,k10⟩:=fin (fun σ=>KA (.exit id) ⟨env0,σ⟩) st3 G3 (some (.exit id)) hX f
     exact⟨_,_,k2,.inr ⟨rfl,by rw [hJx];exact⟨.exit id,.exit id,σ'',G5,rfl,k1,k3,k4,k5,k6,k7,k8,k9⟩⟩⟩
    |panic c=>obtain⟨_,st3,G3,hX,_⟩:=M;exact hX.elim
    |goto t=>exact M.elim
    |outgrown=>exact M.elim
   |exit id=>obtain⟨_,_,_,_,⟨hax,_⟩,_⟩:=M;cases hax
   |ret=>obtain⟨_,_,_,_,⟨hax,_⟩,_⟩:=M;cases hax
   |panic c=>obtain⟨_,_,_,⟨hax,_⟩,_⟩:=M;cases hax
   |goto t=>exact M.elim
   |outgrown=>exact M.elim
 . rw [hJ];exact⟨σm,_,hI0,hinv1,hua,huL,huD,by omega,hL1,hK1⟩
 . -- behind the iterator
   rintro e2 W2 ⟨⟨v,rfl⟩,hA|⟨pre,hA⟩⟩
   . rw [hJ] at hA
     obtain⟨σ',G',hI,b,H,q,u,K,hl,R⟩:=hA
     have hlt2:=(Array.getElem?_eq_some_iff.1 hl).1
     have l:=run_endLoop (P:=P) hl (by rw [j];simp)
     rw [j] at l
     refine⟨none,_,l,hdone D _ _ G' ⟨b.but q (.inl (by omega)) (.putObj _ _ _),u,by simp;omega,hge,by rw [World.putObj_heap_other (by omega)];exact R⟩ (hfin σ' hI)⟩
   . rw [hJx] at hA
     obtain⟨c,x,σ',G',hj,hI,b,H,q,u,K,hl,R⟩:=hA
     have hlt2:=(Array.getElem?_eq_some_iff.1 hl).1
     have l:=run_endLoop (P:=P) hl (by rw [j];simp)
     rw [j] at l
     exact⟨some c,_,l,hstop D c x _ _ G' hj ⟨b.but q (.inl (by omega)) (.putObj _ _ _),u,by simp;omega,hge,by rw [World.putObj_heap_other (by omega)];exact R⟩ hI⟩
end
end Go.Vl
namespace Go.Vl
open Go Go.RowKit
structure RgT where
 bid:Nat
 g:Operand
 ps:Array Tmp
 assign:Code
 body:Code
def RgT.code (t:RgT):Code:=.block t.bid (.rangeFunc t.g t.ps t.assign t.body)
def flat:Code->List Code
 |.seq a b=>flat a++flat b
 |c=>[c]
def JN:List Code->Option (List Code×RgT×List Code)
 | []=>none
 |.block bid (.rangeFunc g ps assign body)::l=>some ([],⟨bid,g,ps,assign,body⟩,l)
 |c::l=>(JN l).map fun r=>(c::r.1,r.2)
theorem SH:∀ {l ags:List Code} {t:RgT} {bgs:List Code},JN l=some (ags,t,bgs)->l=ags++t.code::bgs
 | [],_,_,_,h=>by cases h
 |c::l,ags,t,bgs,h=>by
  unfold JN at h
  split at h
  . rename_i e;cases e
  . rename_i e
    obtain⟨rfl,rfl⟩:=Ĵ e
    simp only [Â,É] at h
    obtain⟨rfl,rfl,rfl⟩:=h
    rfl
  . rename_i e
    obtain⟨rfl,rfl⟩:=Ĵ e
    simp only [ĳ,É,Prod.exists] at h
    obtain⟨a,t2,b2,h1,rfl,rfl,rfl⟩:=h
    rw [SH h1];rfl
theorem Nj {P:Program}{Q:Exit->Act->World->Prop}{next:Act->World->Prop}:∀ (l1 l2:List Code),ZL P Q (l1++l2) next=ZL P Q l1 (ZL P Q l2 next)
 | [],_=>rfl
 |c::l1,l2=>by
  show (fun a w=>c.wp P (Exit.then (ZL P Q (l1++l2) next) Q) a w)=_
  rw [Nj l1 l2];rfl
theorem Ad1 {P:Program}{Q:Exit->Act->World->Prop}:∀ (c:Code) {next:Act->World->Prop} {a:Act} {w:World},ZL P Q (flat c) next a w->c.wp P (Exit.then next Q) a w:=by
 intro c
 induction c with
 |seq x y b d =>
  intro next a w h
  have h:ZL P Q (flat x++flat y) next a w:=h
  rw [Nj] at h
  refine wp_seq (wp_mono (b h) fun e a' w' f=>?_)
  cases e with
  |normal=>exact d f
  |_=>exact f
 |_=>intro next a w h;exact h
theorem Abg {P:Program}{Q:Exit->Act->World->Prop}{c:Code}{a:Act}{w:World}(h:ZL P Q (flat c) (Q .normal) a w):c.wp P Q a w :=
 wp_mono (Ad1 c h) fun e a w h=>by cases e<;>exact h
def QT (P:Program)(L:Cf)(N:Nat)(t:RgT)(b:List Code)(Q:AX->St->Prop)(x:AX)(st:St):Prop:=match x with
 |.normal=>Bx (Aco P L N t.g t.ps t.assign t.body (KT P L N (.blk t.bid::(b.map TI.code++[.code .skip])) Q) st)
 |x=>Q x st
def okR (L:Cf)(n:Nat)(ags:List Code)(t:RgT)(b:List Code)(k:Nat):Bool :=
 ags.all (Cv L.pl n)&&(b.all (Cv L.pl n)&&(Cv L.pl n t.assign&&(Cv L.pl n t.body&&(Dz t.assign&&(Dz t.body&&(t.ps.toList.all (fun x=>decide (x<n))&&decide (k<=n)))))))
section
variable {w w' w0:World} {G G' G0:Gh} {P:Program} {st st':St} {a:Act} {n N:Nat} {L:Cf}
theorem VC.introR {f:FuncId}{fn:Func}{c:Code}{ags b:List Code}{t:RgT}{args:List PV}{σ:List (List PV)}{Q:Cs->List (List PV)->Prop}(L:Cf)
 (hf:P.funcs[f]?=some fn) (hb:fn.body=some c) (hm:P.follows .mixedOrders=true) (hs:JN (flat c)=some (ags,t,b))
 (hok:okR L fn.ntmps ags t b args.length=true)
 (h:WS P L σ.length (ags.map TI.code++[.code .skip]) (QT P L σ.length t b (CZ P fn σ.length Q)) (Jt args σ)):VC P f args σ Q:=by
 unfold okR at hok
 simp only [Å,Ï,Ø] at hok
 obtain⟨A,B,C,E,F,H,V,hn⟩:=hok
 intro w G vs I W hv hΩ u
 have hc:CallsIn Fence.wide 0 P f vs w (fun e w'=>∃ x σ' G',Q x σ'/\D8 w' G' x e/\Az w' G' σ'/\Ext w G w' G'):=by
  refine callsIn_of_wp_marks hf hb trivial ((wpIn_wide (n:=0)).2 (Abg ?_))
  rw [SH hs,Nj]
  have X:(vs++Array.replicate (fn.ntmps-vs.size) Go.undef).size=fn.ntmps:=by simp;omega
  have s:∀ t,(Jt args σ).get t=match args[t]? with|some p=>Be p|none=>.undef:=by
   intro t
   show C3 (args.zipIdx.map fun x=>(x.2,Be x.1)) t=_
   rw [Ml args 0 t];simp;rfl
  have J:Inv w G (Jt args σ) (AG { tmps:=vs++Array.replicate (fn.ntmps-vs.size) Go.undef,defers:=[] }) w G:=by
   refine⟨Ext.refl _ _,I,⟨fun t=>?_,fun t=>?_⟩⟩
   . rw [s]
     cases e:args[t]? with
     |none=>exact .undef _ _
     |some p =>
      have Y:=List.getElem?_eq_some_iff.1 e
      have:=hv t Y.1
      rw [Y.2] at this
      have e2:AG { tmps:=vs++Array.replicate (fn.ntmps-vs.size) Go.undef,defers:=[] } t=vs.getD t Go.undef:=by
       show (vs++_).getD t Go.undef=_
       rw [Ê,ü (by rw [W];exact Y.1),Ê]
      rw [e2];exact CA this
   . rw [s]
     cases e:args[t]? with
     |none=>trivial
     |some p=>exact EL (Bs p) _ _ _ _
  have hN:G.φ.length=σ.length:=I.len
  have v:=Ć hN
  -- at the function's end
  have fin1:∀ (a:Act) (w1:World) (st:St) (G1:Gh),a.defers=[]->Inv w G st (AG a) w1 G1->CZ P fn σ.length Q .ret st->LeavesInM Fence.wide 0 P fn a.tmps (fun e w'=>∃ x σ' G',Q x σ'/\D8 w' G' x e/\Az w' G' σ'/\Ext w G w' G') a.defers .returning w1:=by
   intro a w1 st G1 K hI m
   rw [K]
   exact M9 hN hI m
  have fin2:∀ (a:Act) (D:Nat) (w1:World) (st:St) (G1:Gh),a.defers=[O6 D]->Over w G a D st w1 G1->CZ P fn σ.length Q .ret st->LeavesInM Fence.wide 0 P fn a.tmps (fun e w'=>∃ x σ' G',Q x σ'/\D8 w' G' x e/\Az w' G' σ'/\Ext w G w' G') a.defers .returning w1:=by
   intro a D w1 st G1 K hO m
   rw [K]
   exact⟨by simp,.inl ⟨D,_,rfl,run_takeDeferred hO.is,M9 hN (hO.inv.but hO.unc (.inl hO.ge) (.putObj _ _ _)) m⟩⟩
  have finP:∀ (a:Act) (D:Nat) (w1:World) (st:St) (G1:Gh) (c:List PanicEntry),a.defers=[O6 D]->Ext w G w1 G1->Az w1 G1 st.σ->NL G1 D->w.heap.size<=D->w1.heap[D]?=some (.deferred (some []))->CZ P fn σ.length Q (.pan c) st ->
   LeavesInM Fence.wide 0 P fn a.tmps (fun e w'=>∃ x σ' G',Q x σ'/\D8 w' G' x e/\Az w' G' σ'/\Ext w G w' G') a.defers (.panicking c) w1:=by
   intro a D w1 st G1 c K U g hu Z his m
   rw [K]
   have hb:=T5.putObj w1 D (.deferred none)
   exact⟨by simp,.inl ⟨D,_,rfl,run_takeDeferred his,NF (p:=.undef) (U.but g hu (.inl Z) hb) (g.but hu hb) hN m rfl (fun r e=>by cases e)⟩⟩
  refine M5 (ds:=[]) u hm v ?_ ?_ ags _ _ w G (by rw [Ø];exact A) J rfl X h
  . intro a1 w1 st1 G1 g M hI1 m
    obtain⟨m⟩:=m
    have after:∀ D st2 w2 G2,Over w G a1 D st2 w2 G2->KT P L σ.length (.blk t.bid::(b.map TI.code++[.code .skip])) (CZ P fn σ.length Q) .normal st2 ->
     ZL P (bodyPostM Fence.wide 0 P fn (fun e w'=>∃ x σ' G',Q x σ'/\D8 w' G' x e/\Az w' G' σ'/\Ext w G w' G')) b (bodyPostM Fence.wide 0 P fn (fun e w'=>∃ x σ' G',Q x σ'/\D8 w' G' x e/\Az w' G' σ'/\Ext w G w' G') .normal) { a1 with defers:=O6 D::a1.defers } w2:=by
     intro D st2 w2 G2 hO i
     have O:=hO.inv.ext
     have R:CK w2 (G2.reb σ.length):=(u.ext O).reb
     have hNr:(G2.reb σ.length).φ.length<=σ.length:=by show (G2.φ.take σ.length).length<=_;simp;omega
     have hir:Inv w2 (G2.reb σ.length) st2 (AG a1) w2 G2:=⟨Aal,hO.inv.store,hO.inv.env⟩
     have S:Ext w G w2 (G2.reb σ.length):=O.reb v
     have o:NL (G2.reb σ.length) D:=hO.unc.reb
     have over:∀ (a2:Act) (st4:St) (w4:World) (G4:Gh),Inv w2 (G2.reb σ.length) st4 (AG a2) w4 G4->Over w G a2 D st4 w4 G4:=fun a2 st4 w4 G4 hI =>
      ⟨⟨S.trans hI.ext,hI.store,hI.env⟩,o.ext hO.lt hI.ext,ù hO.lt hI.ext.size,hO.ge,(o.same hO.lt hI.ext).trans hO.is⟩
     refine M5 (P:=P) (L:=L) (ds:=[O6 D]) R hm hNr ?_ ?_ b st2 { a1 with defers:=O6 D::a1.defers } w2 G2 (by rw [Ø];exact B) hir (by simp [M]) g i
     . intro a2 w4 st4 G4 _ q T d
       exact fin2 a2 D w4 st4 G4 q (over a2 st4 w4 G4 T) d
     . intro e a2 w4 y j
       cases e with
       |normal=>exact absurd rfl y
       |ret =>
        obtain⟨_,q,st4,G4,d,T⟩:=j
        exact fin2 a2 D w4 st4 G4 q (over a2 st4 w4 G4 T) d
       |exit id=>obtain⟨_,_,st4,G4,d,_⟩:=j;exact d.elim
       |panic c =>
        obtain⟨q,st4,G4,d,k,z⟩:=j
        exact finP a2 D w4 st4 G4 c q (S.trans k) z (o.ext hO.lt k) hO.ge ((o.same hO.lt k).trans hO.is) d
       |goto l=>exact j.elim
       |outgrown=>exact j.elim
    have pass:∀ {x:AX} {st'},x≠.normal->KT P L σ.length (b.map TI.code++[.code .skip]) (CZ P fn σ.length Q) x st'->CZ P fn σ.length Q x st':=by
     intro x st' U
     have key:∀ l:List Code,KT P L σ.length (l.map TI.code++[.code .skip]) (CZ P fn σ.length Q) x st'->CZ P fn σ.length Q x st':=by
      intro l
      induction l with
      |nil=>intro h;cases x<;>first|exact absurd rfl U|exact h
      |cons c l ih=>intro h;cases x<;>first|exact absurd rfl U|exact ih h
     exact key b
    refine (wpIn_wide (n:=0)).1 (wpIn_block ?_)
    refine V0 (N:=σ.length) (L:=L) u hm v ⟨C,E⟩ ⟨F,H⟩ V hI1 g m ?_ ?_
    . intro D st2 w2 G2 hO i
      exact after D st2 w2 G2 hO i
    . intro D c x st2 w2 G2 hj hO i
      cases c with
      |ret =>
       cases hj
       refine wpIn_ret ?_
       exact fin2 { a1 with defers:=O6 D::a1.defers } D w2 st2 G2 (by simp [M]) ⟨hO.inv,hO.unc,hO.lt,hO.ge,hO.is⟩ (pass (by simp) i)
      |exit id =>
       cases hj
       refine wpIn_exit ?_
       have i:(if id=t.bid then KT P L σ.length (b.map TI.code++[.code .skip]) (CZ P fn σ.length Q) .normal st2 else KT P L σ.length (b.map TI.code++[.code .skip]) (CZ P fn σ.length Q) (.exit id) st2):=i
       show (if id=t.bid then _ else _)
       by_cases e:id=t.bid
       . rw [È e] at i ⊢
         exact after D st2 w2 G2 hO i
       . rw [Ä e] at i
         exact (pass (by simp) i).elim
      |_=>cases hj
  . intro e a1 w1 y j
    cases e with
    |normal=>exact absurd rfl y
    |ret =>
     obtain⟨_,q,st4,G4,d,T⟩:=j
     exact fin1 a1 w1 st4 G4 q T d
    |exit id=>obtain⟨_,_,st4,G4,d,_⟩:=j;exact d.elim
    |panic c =>
     obtain⟨q,st4,G4,d,k,z⟩:=j
     show LeavesInM _ _ _ _ _ _ a1.defers _ _
     rw [q]
     exact NF (p:=.undef) k z hN d rfl (fun r e=>by cases e)
    |goto l=>exact j.elim
    |outgrown=>exact j.elim
 exact (callsIn_wide (n:=0)).1 hc
end
end Go.Vl
namespace Go.Sp
open Go Go.RowKit Go.Q Go.Vl
def Aca (fn:Func):List Code:=match JN (flat (fn.body.getD .skip)) with|some r=>r.1|none=>[]
def tR (fn:Func):RgT:=match JN (flat (fn.body.getD .skip)) with|some r=>r.2.1|none=>⟨0,.tmp 0,#[],.skip,.skip⟩
def bR (fn:Func):List Code:=match JN (flat (fn.body.getD .skip)) with|some r=>r.2.2|none=>[]
def Abu:Code:=.cond (.const (.bool true)) .skip .skip
def Air (fn:Func)(args:List PV)(σ:List (List PV)):List TI×St:=((Aca fn).map TI.code++[.code Abu],Jt args σ)
def Ajg (k:List TI):Bool:=match N4 99 k with
 | []=>true
 |_=>false
def isE (k:List TI):Bool:=match N4 99 k with
 | [.code (.cond (.const (.bool true)) .skip .skip)]=>true
 |_=>false
def Ah3 (k:List TI):Bool:=match N4 99 k with
 |.code .ret::_=>true
 |_=>false
section
variable {P:Program} {L:Cf} {N m:Nat} {Q:AX->St->Prop} {x:List TI×St} {fn:Func} {f:FuncId} {args:List PV} {R:PV}
theorem XU:∀ (l:List Code) {x:AX} {st:St},KT P L N (l.map TI.code++[.code Abu]) Q x st->KT P L N (l.map TI.code++[.code .skip]) Q x st
 | [],x,st,h=>by
  cases x with
  |normal =>
   refine Hi.bind (X:=fun s=>W P L N Abu (KT P L N [] Q) s) h fun s h=>?_
   have h:Hi N s (W P L N .skip (KT P L N [] Q)):=h
   exact h
  |_=>exact h
 |c::l,x,st,h=>by
  cases x with
  |normal=>exact Hi.mono h fun s h=>Qv c (fun x st h=>XU l h) s h
  |_=>exact XU l h
theorem vR {σ:List (List PV)}{Q:Cs->List (List PV)->Prop}(L:Cf)(hf:P.funcs[f]?=some fn)(hm:P.follows .mixedOrders=true)(h:WX P L σ.length (QT P L σ.length (tR fn) (bR fn) (CZ P fn σ.length Q)) (Air fn args σ))
 (hb:((JN (flat (fn.body.getD .skip))).isSome&&(fn.body.isSome&&okR L fn.ntmps (Aca fn) (tR fn) (bR fn) args.length))=true:=by kernel_rfl):VC P f args σ Q:=by
 simp only [Å] at hb
 obtain⟨a,d,g⟩:=hb
 refine VC.introR (c:=fn.body.getD .skip) (ags:=Aca fn) (t:=tR fn) (b:=bR fn) L hf ?_ hm ?_ g (XU _ h.s)
 . cases e:fn.body with
   |none=>rw [e] at d;cases d
   |some c=>rfl
 . unfold Aca tR bR
   cases e:JN (flat (fn.body.getD .skip)) with
   |none=>rw [e] at a;cases a
   |some r=>rfl
theorem vRP (L:Cf)(hf:P.funcs[f]?=some fn)(hm:P.follows .mixedOrders=true)(h:∀ Q:Cs->List (List PV)->Prop,(∀ y,shareP y=R->Q (.ret y) [])->WX P L 0 (QT P L 0 (tR fn) (bR fn) (CZ P fn 0 Q)) (Air fn args []))
 (hb:((JN (flat (fn.body.getD .skip))).isSome&&(fn.body.isSome&&okR L fn.ntmps (Aca fn) (tR fn) (bR fn) args.length))=true:=by kernel_rfl) (a:(FJ args&&R.pure)=true:=by kernel_rfl):BZ P f args R:=by
 rw [Å] at a
 exact VC.fin (fun Q b=>vR L hf hm (h Q b) hb) a.1 a.2
theorem rtG {t:RgT}{b:List Code}{Q:Cs->List (List PV)->Prop}(n:Nat)(qs:List (Nat×Fa)){R:PV}{σ:List (List PV)}(hQ:∀ y,shareP y=R->Q (.ret y) σ)
 (he:(US P L n qs x,TM (rtR P fn N (nx P L n qs x)))=(some (FF qs),some (R,σ)):=by kernel_rfl):WX P L N (QT P L N t b (CZ P fn N Q)) x:=by
 obtain⟨e1,e2⟩:=Ô he
 refine WB ?_ e1
 generalize nx P L n qs x=z at e2
 obtain⟨k,st⟩:=z
 unfold rtR at e2
 refine⟨zp (n:=99) ?_⟩
 split at e2
 . rename_i k1 e
   simp only at e
   rw [e]
   refine Ju ?_
   show CZ P fn N Q .ret st
   cases e3:TQ P fn N st with
   |none=>rw [e3] at e2;cases e2
   |some z =>
    obtain⟨p,σ1⟩:=z
    rw [e3] at e2
    obtain⟨rfl,rfl⟩:=Ô (Ag e2)
    exact (Kf e3 (hQ p rfl)).1
 . cases e2
theorem Abv {k:List TI}{st:St}(h:isE k=true)(hq:Q .normal st):WS P L N k Q st:=by
 unfold isE at h
 refine zp (n:=99) ?_
 split at h
 . rename_i e
   rw [e]
   exact GQ rfl (YH hq)
 . cases h
theorem rgE {env0:List (Nat×PV)}{J:List (List PV)->Prop}{KA:AX->St->Prop}(n:Nat)(qs:List (Nat×Fa)){σ1:List (List PV)}(h:J σ1)
 (he:(US P L n qs x,isE (nx P L n qs x).1,E4 m ((nx P L n qs x).2.σ.take m),(nx P L n qs x).2.σ.take m)=(some (FF qs),true,true,σ1):=by kernel_rfl):WX P L m (WA m env0 J KA) x:=by
 simp only [É] at he
 obtain⟨e1,e2,e3,e4⟩:=he
 exact WB ⟨Abv e2 (Hi.rfl ⟨e3,by rw [e4];exact h⟩)⟩ e1
theorem rgT {env0:List (Nat×PV)}{J:List (List PV)->Prop}{t:RgT}{b:List Code}{Q:Cs->List (List PV)->Prop}(n:Nat)(qs:List (Nat×Fa)){R:PV}{σ:List (List PV)}(hQ:∀ y,shareP y=R->Q (.ret y) σ)
 (he:(US P L n qs x,Ah3 (nx P L n qs x).1,E4 m ((nx P L n qs x).2.σ.take m),TM (TQ P fn N ⟨env0,(nx P L n qs x).2.σ.take m⟩))=(some (FF qs),true,true,some (R,σ)):=by kernel_rfl) :
 WX P L m (WA m env0 J (KT P L N (.blk t.bid::(b.map TI.code++[.code .skip])) (CZ P fn N Q))) x:=by
 simp only [É] at he
 obtain⟨e1,e2,e3,e4⟩:=he
 refine WB ⟨zp (n:=99) ?_⟩ e1
 unfold Ah3 at e2
 split at e2
 . rename_i k1 e
   rw [e]
   refine Ju (Hi.rfl ⟨e3,?_⟩)
   show KT P L N _ (CZ P fn N Q) .ret _
   rw [Se]
   cases e5:TQ P fn N ⟨env0,(nx P L n qs x).2.σ.take m⟩ with
   |none=>rw [e5] at e4;cases e4
   |some z =>
    obtain⟨p,σ1⟩:=z
    rw [e5] at e4
    obtain⟨rfl,rfl⟩:=Ô (Ag e4)
    exact (Kf e5 (hQ p rfl)).1
 . cases e2
theorem Rnd.bind {X:List (List PV)->Prop}{st:St}(h:Hi m st (Rnd m X)):Rnd m X st:=Hi.bind h fun _ h=>h
theorem XR {env0:List (Nat×PV)}{J:List (List PV)->Prop}{KA:AX->St->Prop}{a:Code}{st:St}(h:WS P L m [.code a,.code Abu] (WA m env0 J KA) st):WS P L m [.code a] (WA m env0 J KA) st:=by
 refine Hi.mono h fun st2 h=>Qv a (fun x st h=>?_) st2 h
 cases x with
 |normal =>
  refine Rnd.bind (Hi.bind h fun s h=>?_)
  have h:Hi m s (W P L m .skip (KT P L m [] (WA m env0 J KA))):=h
  exact h
 |_=>exact h
def Agu (m:Nat)(env0:List (Nat×PV)):Bool:=env0.all fun x=>plain x.2&&x.2.fits m
theorem Agt {st:St}{env0:List (Nat×PV)}(h:env0.map (fun x=>(x.1,st.get x.1))=env0)(hb:Agu m env0=true):∀ t,C3 env0 t=.undef∨(C3 env0 t=st.get t/\plain (st.get t)=true/\(st.get t).fits m=true):=by
 intro t
 unfold Agu at hb
 induction env0 with
 |nil=>exact .inl rfl
 |cons y r ih =>
  obtain⟨k,v⟩:=y
  simp only [ß,List.cons.injEq,É,û] at h
  rw [ĉ,Å,Å] at hb
  show (if k=t then v else C3 r t)=_∨(if k=t then v else C3 r t)=_/\_
  by_cases e:k=t
  . subst e
    rw [È rfl]
    refine .inr ⟨h.1.symm,?_⟩
    rw [h.1];exact hb.1
  . rw [Ä e];exact ih h.2 hb.2
theorem rgW {t:RgT}{b:List Code}{Qr:AX->St->Prop}{S Y:Type}(n:Nat)(qs:List (Nat×Fa))(m gf tv:Nat)(zs xs:List Int)(env0:List (Nat×PV))(g:List Int->S->Option Y)(C:S->List (List PV))(T:Int->S->St)(s0:S){y:Y}(hg:g xs s0=some y)(hne:zs≠[])(hit:Acp P gf zs xs)
 (hC:∀ s,(C s).length=m/\E4 m (C s)=true)
 (hT:∀ v s,(US P L 1 [] ([.code t.assign],⟨(tv,iP v)::env0,C s⟩),(nx P L 1 [] ([.code t.assign],⟨(tv,iP v)::env0,C s⟩)).1,(nx P L 1 [] ([.code t.assign],⟨(tv,iP v)::env0,C s⟩)).2.σ.length,low (keys (T v s)) m (nx P L 1 [] ([.code t.assign],⟨(tv,iP v)::env0,C s⟩)).2)=(some [],[],m,T v s))
 (he:(US P L n qs x,isE (nx P L n qs x).1,(nx P L n qs x).2.σ,C5 (nx P L n qs x).2 t.g,JB P gf,t.ps,Nat.ble N m,env0.map (fun z=>(z.1,(nx P L n qs x).2.get z.1)),Agu m env0)=(some (FF qs),true,C s0++[[.prv (zs.map LW)]],.fn gf [.ptr m 0],true,#[tv],true,env0,true))
 (hr:∀ v rest s,g (v::rest) s=some y->∀ J:List (List PV)->Prop,(∀ s',g rest s'=some y->J (C s'))->WX P L m (WA m env0 J (KT P L N (.blk t.bid::(b.map TI.code++[.code .skip])) Qr)) ([.code t.body,.code Abu],T v s))
 (hf:∀ s,g [] s=some y->WX P L N Qr ((.blk t.bid::(b.map TI.code++[.code .skip])),⟨env0,C s⟩)):WX P L N (QT P L N t b Qr) x:=by
 simp only [É] at he
 obtain⟨e1,e2,e3,e4,e5,e6,e7,e8,e9⟩:=he
 refine WB ⟨Abv e2 ⟨m,gf,tv,C s0,env0,zs,xs,fun pre σ'=>∃ s rest,xs=pre++rest/\g rest s=some y/\σ'=C s,⟨e3,(hC s0).1,Ö e7,(hC s0).2,hne⟩,⟨e4,e5,e6,hit⟩,Agt e8 e9,⟨⟨s0,xs,rfl,hg,rfl⟩,?_⟩,?_,?_⟩⟩ e1
 . rintro pre σ' ⟨s,rest,_,_,rfl⟩;exact (hC s).1
 . rintro pre v σ' ⟨s,rest,c,a,rfl⟩ f
   have d:[v] <+: rest:=by rw [c] at f;exact (List.prefix_append_right_inj pre).1 f
   obtain⟨rest',rfl⟩:=d
   have i:=hT v s
   simp only [É] at i
   obtain⟨k1,k2,k3,k4⟩:=i
   have hb:=hr v rest' s a (fun σ'=>∃ s rest,xs=(pre++[v])++rest/\g rest s=some y/\σ'=C s) (fun s' e=>⟨s',rest',by rw [c];simp,e,rfl⟩)
   have j:WX P L m (fun ax st2=>ax=.normal/\st2.σ.length=m/\WS P L m [.code t.body] (WA m env0 (fun σ'=>∃ s rest,xs=(pre++[v])++rest/\g rest s=some y/\σ'=C s) (KT P L N (.blk t.bid::(b.map TI.code++[.code .skip])) Qr)) st2) ([.code t.assign],⟨(tv,iP v)::env0,C s⟩):=by
    refine WB (n:=1) (qs:=[]) ⟨?_⟩ k1
    rw [k2]
    exact⟨rfl,k3,XR (Li _ _ rfl (ä _) k4 hb.s)⟩
   exact j.s
 . rintro σ' ⟨s,rest,c,a,rfl⟩
   have:rest=[]:=by
    have:=congrArg List.length c
    simp at this;exact this
   subst this
   exact (hf s a).s
end
def Ur {α:Type}(l:List α)(i:Int)(f:α->α):Option (List α):=(gi l i).bind fun x=>Lv l i (f x)
section
variable {α:Type} (R:Rl α)
theorem stM {l l':List α}{m off:Nat}{i:Int}{f:α->α}{y:List Value}(h:Ur l i f=some l')(hy:off+y.length<=R.n)(hx:∀ x,(R.vals x).take off++y++(R.vals x).drop (off+y.length)=R.vals (f x)) :
 StA (DQ (l.map R.vals) m) (0+i.toNat*R.n+off) y.length (y.map .lit) (DQ (l'.map R.vals) m):=by
 obtain⟨x,a,b⟩:=Ab h
 exact stF R a b hy (hx x)
def fsM {l l':List α}(m off:Nat){i:Int}{f:α->α}(y:List Value)(h:Ur l i f=some l')(hy:off+y.length<=R.n)(hx:∀ x,(R.vals x).take off++y++(R.vals x).drop (off+y.length)=R.vals (f x)):Fa:=⟨.ast (DQ (l'.map R.vals) m),_,stM R (m:=m) (off:=off) h hy hx⟩
end
def br2 (P:Program)(L:Cf)(k:List TI)(st:St):Option (List TI×(Bool->St)):=match N4 99 k with
 |.code (.region i ops false)::k'=>match Eb L.pl i,ops.toList with
  |none,[o1,o2]=>match o1.guard,I3 P o1 st,o2.op,o2.dst,o2.guard with
   |none,some (true,st1),.binOp .eql t x (.const (.slice none 0 0)) _,some d,none=>match C5 st1 x with
    |.sl [] _=>if ((I3 P o2 st1).isNone&&WT P t)=true then some (k',fun b=>clr L.L (st1.put (some d) (.lit (.bool b)))) else none
    |_=>none
   |_,_,_,_,_=>none
  |_,_=>none
 |_=>none
section
variable {P:Program} {L:Cf} {N:Nat} {Q:AX->St->Prop} {x:List TI×St}
theorem Ab3 {k k':List TI}{st:St}{f:Bool->St}(h:br2 P L k st=some (k',f))(hk:∀ b,WS P L N k' Q (f b)):WS P L N k Q st:=by
 unfold br2 at h
 refine zp (n:=99) ?_
 split at h
 . rename_i i ops k1 e
   rw [e]
   split at h
   . rename_i o1 o2 j c
     split at h
     . rename_i st1 t y t2 d l m a p o
       split at h
       . rename_i g q
         split at h
         . rename_i hs
           simp only [Â,É] at h
           obtain⟨rfl,rfl⟩:=h
           refine IQ j fun K' r hP=>?_
           rw [c]
           unfold B5
           rw [show CS ops st o1=some true by unfold CS;rw [l]]
           simp only
           rw [m]
           simp only
           refine⟨trivial,?_⟩
           unfold B5
           rw [show CS ops st1 o2=some true by unfold CS;rw [o]]
           simp only
           have hb:∀ b,B5 P ops K' [] (st1.put (some d) (.lit (.bool b))):=fun b=>r _ _ rfl (hk b)
           rw [Å,Option.isNone_iff_eq_none] at hs
           rw [hs.1]
           simp only
           rw [show Fm P o2 st1=none by unfold Fm;rw [a]]
           simp only
           rw [show Ng o2 st1=none by unfold Ng;rw [a]]
           simp only
           unfold S9
           rw [a,p]
           simp only
           rw [q]
           exact⟨hs.2,hb true,hb false⟩
         . cases h
       . cases h
     . cases h
   . cases h
 . cases h
def brT (P:Program)(L:Cf)(x:List TI×St)(b:Bool):List TI×St:=match br2 P L x.1 x.2 with
 |some (k,f)=>(k,f b)
 |none=>x
theorem brN (n:Nat)(qs:List (Nat×Fa))(h:∀ b,WX P L N Q (brT P L (nx P L n qs x) b))(he:(US P L n qs x,(br2 P L (nx P L n qs x).1 (nx P L n qs x).2).isSome)=(some (FF qs),true):=by kernel_rfl):WX P L N Q x:=by
 simp only [É] at he
 obtain⟨e1,e2⟩:=he
 refine WB ⟨?_⟩ e1
 cases e:br2 P L (nx P L n qs x).1 (nx P L n qs x).2 with
 |none=>rw [e] at e2;cases e2
 |some z =>
  obtain⟨k',f⟩:=z
  refine Ab3 e fun b=>?_
  have:=(h b).s
  unfold brT at this
  rw [e] at this
  exact this
end
end Go.Sp
namespace Go.Proofs
open Go.Shelf
def Tryz.lays189_ren:Go.Shelf.Ren:=⟨fun|189=>52|125=>76|257=>75|128=>130|129=>131|294=>121|295=>122|296=>123|297=>124|298=>125|299=>126|216=>127|300=>128|301=>129|328=>149|329=>150|330=>151|331=>152|332=>153|215=>154|343=>165|n=>n,fun|28=>29|3=>3|46=>175|0=>0|51=>203|53=>205|4=>4|183=>197|182=>196|131=>129|5=>5|9=>9|218=>221|222=>225|228=>235|229=>236|n=>n,fun|n=>n⟩
theorem Tryz.lays189:Go.Proofs.Lays.n189 Tryz.prog Tryz.lays189_ren:={
 mixed:=by kernel_rfl
 f125:=Tryz.func76.trans (congrArg some (by kernel_rfl))
 f128:=Tryz.func130.trans (congrArg some (by kernel_rfl))
 f129:=Tryz.func131.trans (congrArg some (by kernel_rfl))
 f189:=Tryz.func52.trans (congrArg some (by kernel_rfl))
 f215:=Tryz.func154.trans (congrArg some (by kernel_rfl))
 f216:=Tryz.func127.trans (congrArg some (by kernel_rfl))
 f257:=Tryz.func75.trans (congrArg some (by kernel_rfl))
 f294:=Tryz.func121.trans (congrArg some (by kernel_rfl))
 f295:=Tryz.func122.trans (congrArg some (by kernel_rfl))
 f296:=Tryz.func123.trans (congrArg some (by kernel_rfl))
 f297:=Tryz.func124.trans (congrArg some (by kernel_rfl))
 f298:=Tryz.func125.trans (congrArg some (by kernel_rfl))
 f299:=Tryz.func126.trans (congrArg some (by kernel_rfl))
 f300:=Tryz.func128.trans (congrArg some (by kernel_rfl))
 f301:=Tryz.func129.trans (congrArg some (by kernel_rfl))
 f328:=Tryz.func149.trans (congrArg some (by kernel_rfl))
 f329:=Tryz.func150.trans (congrArg some (by kernel_rfl))
 f330:=Tryz.func151.trans (congrArg some (by kernel_rfl))
 f331:=Tryz.func152.trans (congrArg some (by kernel_rfl))
 f332:=Tryz.func153.trans (congrArg some (by kernel_rfl))
 f343:=Tryz.func165.trans (congrArg some (by kernel_rfl))
 t0:=Tryz.underlying0
 a0:=Tryz.isAgg0
 z0:=Tryz.sizeOf0
 v0:=Tryz.zeroValue0
 t3:=Tryz.underlying3
 a3:=Tryz.isAgg3
 z3:=Tryz.sizeOf3
 v3:=Tryz.zeroValue3
 t4:=Tryz.underlying4
 a4:=Tryz.isAgg4
 z4:=Tryz.sizeOf4
 v4:=Tryz.zeroValue4
 t5:=Tryz.underlying5
 a5:=Tryz.isAgg5
 z5:=Tryz.sizeOf5
 v5:=Tryz.zeroValue5
 t9:=Tryz.underlying9
 a9:=Tryz.isAgg9
 z9:=Tryz.sizeOf9
 v9:=Tryz.zeroValue9
 t28:=Tryz.underlying29
 a28:=Tryz.isAgg29
 z28:=Tryz.sizeOf29
 v28:=Tryz.zeroValue29
 t46:=Tryz.underlying175
 a46:=Tryz.isAgg175
 z46:=Tryz.sizeOf175
 v46:=Tryz.zeroValue175
 t51:=Tryz.underlying203
 a51:=Tryz.isAgg203
 z51:=Tryz.sizeOf203
 v51:=Tryz.zeroValue203
 t53:=Tryz.underlying205
 a53:=Tryz.isAgg205
 z53:=Tryz.sizeOf205
 v53:=Tryz.zeroValue205
 t131:=Tryz.underlying129
 a131:=Tryz.isAgg129
 z131:=Tryz.sizeOf129
 v131:=Tryz.zeroValue129
 t182:=Tryz.underlying196
 a182:=Tryz.isAgg196
 z182:=Tryz.sizeOf196
 v182:=Tryz.zeroValue196
 t183:=Tryz.underlying197
 a183:=Tryz.isAgg197
 z183:=Tryz.sizeOf197
 v183:=Tryz.zeroValue197
 t218:=Tryz.underlying221
 a218:=Tryz.isAgg221
 z218:=Tryz.sizeOf221
 v218:=Tryz.zeroValue221
 t222:=Tryz.underlying225
 a222:=Tryz.isAgg225
 z222:=Tryz.sizeOf225
 v222:=Tryz.zeroValue225
 t228:=Tryz.underlying235
 a228:=Tryz.isAgg235
 z228:=Tryz.sizeOf235
 v228:=Tryz.zeroValue235
 t229:=Tryz.underlying236
 a229:=Tryz.isAgg236
 z229:=Tryz.sizeOf236
 v229:=Tryz.zeroValue236 }
open Go.Sort Go.RowKit in
theorem Tryz.slices_Sort_int (blk off cap:Nat)(zs:List Int)(w:World)(hH:Holds (Value.int .i64) w blk off zs.toArray)(hblk:blk<w.heap.size)(hsz:zs.length<4611686018427387904) :
 Calls Tryz.prog 52 #[.slice (some ⟨blk,off,none⟩) zs.length cap] w fun e w' =>
  e=.returned (.tuple #[])/\∃ n os,w'=grow (putRow (Value.int .i64) (Sort.ahead w n) blk off (zs.mergeSort fun x y=>decide (x<=y)).toArray) os:=Any.slices_Sort_int Tryz.lays189 blk off cap zs w hH hblk hsz
def Tryz.laysNm220_ren:Go.Shelf.Ren:=⟨fun|20=>54|n=>n,fun|22=>29|3=>3|4=>4|0=>0|n=>n,fun|n=>n⟩
theorem Tryz.laysNm220:Go.Proofs.Lays2.n20 Tryz.prog Tryz.laysNm220_ren:={
 mixed:=by kernel_rfl
 f20:=Tryz.func54.trans (congrArg some (by kernel_rfl))
 t0:=Tryz.underlying0
 a0:=Tryz.isAgg0
 z0:=Tryz.sizeOf0
 v0:=Tryz.zeroValue0
 t3:=Tryz.underlying3
 a3:=Tryz.isAgg3
 z3:=Tryz.sizeOf3
 v3:=Tryz.zeroValue3
 t4:=Tryz.underlying4
 a4:=Tryz.isAgg4
 z4:=Tryz.sizeOf4
 v4:=Tryz.zeroValue4
 t22:=Tryz.underlying29
 a22:=Tryz.isAgg29
 z22:=Tryz.sizeOf29
 v22:=Tryz.zeroValue29
 i3:=by kernel_rfl }
open Go.RowKit Go.Lib Go.Sort in
theorem Tryz.slices_Compact_int (blk off cap:Nat)(zs:List Int)(w:World)(hH:Holds (Value.int .i64) w blk off zs.toArray)(hsz:zs.length<=9223372036854775807)(hcap:zs.length<=cap) :
 Calls Tryz.prog 54 #[.slice (some ⟨blk,off,none⟩) zs.length cap] w fun e w'=>e=.returned (.slice (some ⟨blk,off,none⟩) (Lib.compact zs).length cap)/\∃ q,w'=putRow (Value.int .i64) (Sort.ahead w q) blk off (Lib.compact zs++List.replicate (zs.length-(Lib.compact zs).length) 0).toArray:=Any.slices_Compact_int Tryz.laysNm220 blk off cap zs w hH hsz hcap
open Go.RowKit Go.Sort in
theorem Tryz.slices_Sort_int_none (p:Option Addr)(cap:Nat)(w:World) :
 Calls Tryz.prog 52 #[.slice p 0 cap] w fun e w'=>e=.returned (.tuple #[])/\w'=w:=Any.slices_Sort_int_none Tryz.lays189 p cap w
end Go.Proofs
namespace Go.Sp
open Go Go.RowKit Go.Proofs Go.Sort Go.Vl
theorem Abh (zs:List Int):(zs.map LW).flatten.map PV.lit=zs.map fun z=>PV.lit (.int .i64 z):=by
 induction zs with
 |nil=>rfl
 |cons z zs ih=>simp only [ß,List.flatten_cons,Ĥ,ih];rfl
theorem Qs (zs:List Int)(e:Nat):(DQ (zs.map LW) e).length=zs.length+e:=by
 unfold DQ;rw [Abh];simp
theorem YE (zs:List Int)(e i:Nat)(h:i<zs.length):(DQ (zs.map LW) e)[i]?=some (.lit (.int .i64 zs[i])):=by
 unfold DQ
 rw [Abh,Õ (by simpa using h)]
 simp [h]
theorem Qt (zs:List Int)(e:Nat):∀ p∈DQ (zs.map LW) e,p=.undef∨∃ v,p=.lit v:=by
 intro p a
 unfold DQ at a
 rcases List.mem_append.1 a with h|h
 . obtain⟨v,_,rfl⟩:=List.mem_map.1 h;exact .inr ⟨v,rfl⟩
 . exact .inl (List.mem_replicate.1 h).2
section
variable {w w':World} {G:Gh} {P:Program} {σ:List (List PV)}
theorem ZH {k b e:Nat}{zs:List Int}(h:Az w G σ)(h1:G.φ[k]?=some b)(s1:σ[k]?=some (DQ (zs.map LW) e)) :
 ∃ T,∃ arr:Array Value,w.heap[b]?=some (.cells arr T (0,0))/\arr.size=zs.length+e/\(∀ i,i<arr.size->(arr.getD i Go.undef).oneCell'=true)/\∀ i (h:i<zs.length),arr[i]?=some (.int .i64 zs[i]):=by
 obtain⟨⟨o1,arr1,l1,⟨l2,l3⟩,l4⟩,_⟩:=h.blk k b _ h1 s1
 have c1:∃ T,o1=.cells arr1 T (0,0):=by
  rcases l2 with k2|⟨kvs,es,c,k2,_⟩|⟨kvs,seen,k2,_⟩
  . exact k2.1
  . exfalso
    have:=Qt zs e (.mp kvs) (by rw [k2];simp)
    rcases this with h|⟨v,h⟩<;>cases h
  . exfalso
    have:=Qt zs e (.mit kvs seen) (by rw [k2];simp)
    rcases this with h|⟨v,h⟩<;>cases h
 obtain⟨T,rfl⟩:=c1
 refine⟨T,arr1,l1,by rw [l3,Qs],fun i a=>?_,fun i a=>?_⟩
 . obtain⟨u,u1,u2,_⟩:=l4 i _ (Ã (by rw [<- l3];exact a))
   rw [Ê,u1];exact u2
 . obtain⟨u,u1,u2,u3,u4⟩:=l4 i _ (YE zs e i a)
   cases u3 with
   |lit=>exact u1
theorem P3 (enc:Int->Value)(w:World)(b:Nat)(d:Array Int)(k:Nat)(hk:k≠b):(putRow enc w b 0 d).heap[k]?=w.heap[k]?:=by
 show (w.heap.modify b _)[k]?=_
 rw [Array.getElem?_modify,Ä (ġ hk)]
theorem P2 (enc:Int->Value)(w:World)(b:Nat)(d:Array Int){arr:Array Value}{T:TypeId}{f:Nat×Nat}(h:w.heap[b]?=some (.cells arr T f)):(putRow enc w b 0 d).heap[b]?=some (.cells (putCells enc 0 d arr) T f):=by
 show (w.heap.modify b _)[b]?=_
 rw [Array.getElem?_modify,È rfl,h];rfl
theorem Oh (zs:List Int)(arr:Array Value)(i:Nat):(putCells (Value.int .i64) 0 zs.toArray arr).getD i Go.undef=if h:i<zs.length/\i<arr.size then .int .i64 (zs[i]'h.1) else arr.getD i Go.undef:=by
 unfold putCells
 rw [Ê,Array.getElem?_mapIdx,Ê]
 by_cases a:i<arr.size
 . rw [æ a]
   by_cases h:i<zs.length
   . simp [h,a]
   . simp [h]
 . rw [Array.getElem?_eq_none (by omega)]
   simp [a]
theorem MZ (zs:List Int)(arr:Array Value):(putCells (Value.int .i64) 0 zs.toArray arr).size=arr.size:=by simp [putCells]
theorem VC.arrI {f:FuncId}{zs zs':List Int}{b cap e:Nat}(hl:zs'.length=zs.length)
 (hc:∀ (blk:Nat) (w:World),Holds (Value.int .i64) w blk 0 zs.toArray->blk<w.heap.size->Calls P f #[.slice (some ⟨blk,0,none⟩) zs.length cap] w fun e w'=>e=.returned (.tuple #[])/\∃ n os,w'=grow (putRow (Value.int .i64) (Sort.ahead w n) blk 0 zs'.toArray) os)
 (hσ:σ[b]?=some (DQ (zs.map LW) e)):JW P f [.asl b 0 zs.length cap] σ (.ret (.tup [])) (σ.set b (DQ (zs'.map LW) e)):=by
 intro w G vs hs y J S K
 have A:=J 0 (by simp)
 have m:vs.size=1:=y
 generalize q:(PV.asl b 0 zs.length cap)=p at A
 have B:∃ blk,G.φ[b]?=some blk/\vs = #[.slice (some ⟨blk,0,none⟩) zs.length cap]:=by
  have e1:vs = #[vs.getD 0 Go.undef]:=by
   apply Array.ext
   . simpa using m
   . intro i L I
     have:i=0:=by simp at I;exact I
     subst this
     simp [Array.getD,L]
  have d:V w G.U G.φ p (vs.getD 0 Go.undef):=by rw [<- q] at A ⊢;exact A
  revert d
  generalize vs.getD 0 Go.undef=z at e1
  intro d
  cases d with
  |asl _ _ _ _ _ k C M W=>cases q;exact⟨k,C,e1⟩
  |_=>cases q
 obtain⟨blk,D,rfl⟩:=B
 obtain⟨T,arr,x,E,r,s⟩:=ZH hs D hσ
 have F:blk<w.heap.size:=hs.phi_lt (Ð D)
 have hH:Holds (Value.int .i64) w blk 0 zs.toArray:=by
  intro j H
  have u:j<zs.length:=by simpa using H
  refine⟨?_,?_⟩
  . rw [ø]
    have h:=s j u
    simp [World.cell?,x,h,u]
  . simp [World.frozen?,x]
 refine (hc blk w hH F).mono ?_
 rintro e2 w' ⟨rfl,n,os,rfl⟩
 have hI:Inv w G ⟨[],σ⟩ (fun _=>Go.undef) w G:=⟨Ext.refl _ _,hs,⟨fun t=>.undef _ _,fun t=>trivial⟩⟩
 have g:=hI.setBlock (w':=putRow (Value.int .i64) (Sort.ahead w n) blk 0 zs'.toArray) (cs':=DQ (zs'.map LW) e) (arr':=putCells (Value.int .i64) 0 zs'.toArray arr) D hσ x
  (P2 _ (Sort.ahead w n) blk _ x) (fun p q=>by rcases Qt zs' e p q with h|⟨v,h⟩<;>rw [h]<;>rfl) (fun i a=>P3 _ (Sort.ahead w n) blk _ i a) rfl rfl rfl
  ⟨by rw [MZ,E,Qs,hl],fun i a=>?_⟩ ?_ (fun t xs j h=>by cases h)
 . have B:∀ (w1 w2:World) (o:Array Obj),w2=grow w1 o->Below w1.heap.size w1 w2:=by
    rintro w1 w2 o rfl
    exact⟨rfl,rfl,rfl,by simp,fun k C=>by show (w1.heap++o)[k]?=_;rw [ü C]⟩
   have hB:=B (putRow (Value.int .i64) (Sort.ahead w n) blk 0 zs'.toArray) _ os rfl
   refine⟨_,_,_,⟨rfl,rfl⟩,⟨_,rfl,.tup _ _ _ rfl (fun i a=>by simp at a),fun i xs a=>by simp at a⟩,g.store.below hB (fun b i l=>.inl l) (fun b i l=>l),g.ext.trans (Ext.ofBelow g.store hB (fun b i l=>.inl l) (fun b i l=>l))⟩
 . rw [Qs,hl] at a
   rw [Oh]
   split
   . rename_i h
     have e3:=YE zs' e i h.1
     obtain⟨X,N⟩:=List.getElem?_eq_some_iff.1 e3
     rw [N]
     exact⟨.lit _ _,rfl⟩
   . rename_i h
     have O:¬ i<zs'.length:=fun R=>h ⟨R,by omega⟩
     refine⟨?_,r i (by omega)⟩
     have:(DQ (zs'.map LW) e)[i]'(by rw [Qs,hl];exact a)=.undef:=by
      unfold DQ
      simp only [Abh]
      rw [Ė (by simpa using O)]
      simp
     rw [this];exact .undef _ _
 . intro j c H
   rcases Qt zs' e c (Ð H) with h|⟨v,h⟩<;>rw [h]<;>trivial
end
def Xw (x:Int):List Int->List Int
 | []=>[x]
 |y::r=>bif decide (x<=y) then x::y::r else y::Xw x r
def BK:List Int->List Int
 | []=>[]
 |x::r=>Xw x (BK r)
theorem Pd (x:Int):∀ l,(Xw x l).Perm (x::l)
 | []=>.refl _
 |y::r=>by
  unfold Xw
  by_cases h:x<=y
  . rw [Í h];exact .refl _
  . rw [Ç h];exact ((Pd x r).cons y).trans (.swap _ _ _)
theorem Du:∀ l,(BK l).Perm l
 | []=>.refl _
 |x::r=>(Pd x _).trans ((Du r).cons x)
theorem PB (x:Int):∀ l,l.Pairwise (·<=·)->(Xw x l).Pairwise (·<=·)
 | [],_=>by simp [Xw]
 |y::r,h=>by
  have hr:=List.pairwise_cons.1 h
  unfold Xw
  by_cases hx:x<=y
  . rw [Í hx]
    exact List.pairwise_cons.2 ⟨fun z hz=>by
     rcases List.mem_cons.1 hz with rfl|hz
     . exact hx
     . exact Int.le_trans hx (hr.1 z hz),h⟩
  . rw [Ç hx]
    refine List.pairwise_cons.2 ⟨fun z hz=>?_,PB x r hr.2⟩
    rcases List.mem_cons.1 ((Pd x r).mem_iff.1 hz) with rfl|hz
    . omega
    . exact hr.1 z hz
theorem E9:∀ l,(BK l).Pairwise (·<=·)
 | []=>.nil
 |x::r=>PB x _ (E9 r)
theorem Zt (l:List Int):(l.mergeSort fun x y=>decide (x<=y))=BK l:=by
 refine List.Perm.eq_of_pairwise (le:=fun x y:Int=>x<=y) (fun a b _ _ d e=>Int.le_antisymm d e) ?_ (E9 l) ((List.mergeSort_perm _ _).trans (Du l).symm)
 have:=List.pairwise_mergeSort (le:=fun x y:Int=>decide (x<=y)) (fun a b c d e=>by simp at d e ⊢;omega) (fun a b=>by simp;omega) l
 exact this.imp (fun h=>by simpa using h)
def O5:List Int->List Int
 | []=>[]
 | [x]=>[x]
 |x::y::r=>bif decide (x=y) then O5 (y::r) else x::O5 (y::r)
theorem RH:∀ (l:List Int) (y x:Int),O5 (l++[y,x])=O5 (l++[y])++(if y=x then [] else [x])
 | [],y,x=>by
  show O5 [y,x]=O5 [y]++_
  by_cases h:y=x
  . subst h;simp [O5]
  . simp [O5,h]
 | [z],y,x=>by
  show O5 (z::y::[x])=O5 [z,y]++_
  have ih:=RH [] y x
  have ih:O5 (y::[x])=O5 [y]++(if y=x then [] else [x]):=ih
  rw [O5,ih]
  by_cases h:z=y
  . subst h;simp [O5]
  . simp [O5,h]
 |z::z2::l,y,x=>by
  have ih:=RH (z2::l) y x
  simp only [ĝ] at ih ⊢
  rw [O5,O5,ih]
  by_cases h:z=z2
  . subst h;simp
  . simp [h]
theorem JA (d e:Array Int):∀ m,(∀ j,j<m->d[j]! = e[j]!)->Lib.compactUpTo d m=Lib.compactUpTo e m
 |0,_=>rfl
 |m+1,h=>by
  rw [Lib.compactUpTo_succ,Lib.compactUpTo_succ,JA d e m (fun j hj=>h j (by omega)),h m (by omega)]
  have:Lib.keeps d m=Lib.keeps e m:=by
   unfold Lib.keeps
   rw [h m (by omega)]
   by_cases a:m=0
   . simp [a]
   . rw [h (m-1) (by omega)]
  rw [this]
theorem XJ (l:List Int):Lib.compact l=O5 l:=by
 have key:∀ r:List Int,Lib.compact r.reverse=O5 r.reverse:=by
  intro r
  induction r with
  |nil=>rfl
  |cons x r ih =>
   cases r with
   |nil=>simp [Lib.compact,Lib.compactUpTo,O5,Lib.keeps,List.range_succ]
   |cons y r =>
    rw [List.reverse_cons,List.reverse_cons,ð]
    show Lib.compact (r.reverse++[y,x])=O5 (r.reverse++[y,x])
    rw [RH]
    rw [List.reverse_cons] at ih
    rw [<- ih]
    unfold Lib.compact
    have c:(r.reverse++[y,x]).length=(r.reverse++[y]).length+1:=by simp
    rw [c,Lib.compactUpTo_succ]
    rw [JA (r.reverse++[y,x]).toArray (r.reverse++[y]).toArray _ (fun j d=>?_)]
    . congr 1
      have f:(r.reverse++[y,x]).toArray[(r.reverse++[y]).length]! = x:=by simp
      have g:(r.reverse++[y,x]).toArray[(r.reverse++[y]).length-1]! = y:=by simp
      unfold Lib.keeps
      rw [f,g]
      by_cases h:y=x
      . subst h;simp
      . have:¬ x=y:=fun e=>h e.symm
        simp [h,this]
    . simp only [Ú,List.length_reverse,à,ö] at d
      simp only [List.getElem!_toArray,List.getElem!_eq_getElem?_getD]
      by_cases b:j<r.length
      . rw [Õ (by simpa using b),Õ (by simpa using b)]
      . have:j=r.length:=by omega
        subst this
        rw [ã (by simp),ã (by simp)]
        simp
 have:=key l.reverse
 rwa [List.reverse_reverse] at this
def BV (zs:List Int):List Int:=(O5 zs).filter fun x=>decide (x<=41666)
def PC (zs:List Int):Option (List Int):=if zs.length<4611686018427387904 then some (BK zs) else none
theorem ZS {zs r:List Int}{σ:List (List PV)}{b cap e:Nat}(h:PC zs=some r)(hσ:σ[b]?=some (DQ (zs.map LW) e)):JW Tryz.prog 52 [.asl b 0 zs.length cap] σ (.ret (.tup [])) (σ.set b (DQ (r.map LW) e)):=by
 unfold PC at h
 split at h
 . rename_i c
   cases h
   exact VC.arrI (Du zs).length_eq (fun blk w hH a=>by rw [<- Zt];exact Tryz.slices_Sort_int blk 0 cap zs w hH a c) hσ
 . cases h
end Go.Sp
namespace Go.Sp
open Go Go.Vl
set_option linter.unusedVariables false
structure Ae where
 from_:Int
 to_:Int
 clause:Int
def Df (x:Ae):List PV:=[iP x.from_,iP x.to_,iP x.clause]
theorem OR (x:Ae):Df x=[iP x.from_,iP x.to_,iP x.clause]:=rfl
theorem Oc (x:Ae):(Df x).length=3:=rfl
def BG:Rw Ae:=⟨Df,_,3,OR,Oc⟩
structure A7 where
 State:Int
 Houses:Int
 By:(List Int)
structure Al where
 From:Int
 To:Int
 State:Int
 Houses:Int
def CM (x:Al):List PV:=[iP x.From,iP x.To,iP x.State,iP x.Houses]
theorem Nz (x:Al):CM x=[iP x.From,iP x.To,iP x.State,iP x.Houses]:=rfl
theorem MR (x:Al):(CM x).length=4:=rfl
def Ct:Rw Al:=⟨CM,_,4,Nz,MR⟩
def Ak:Rl Ae:=⟨fun x=>[(.int .i64 x.from_),(.int .i64 x.to_),(.int .i64 x.clause)],3,fun _=>rfl⟩
def FE:Rl Int:=⟨fun x=>[(.int .i64 x)],1,fun _=>rfl⟩
def Au:Rl Al:=⟨fun x=>[(.int .i64 x.From),(.int .i64 x.To),(.int .i64 x.State),(.int .i64 x.Houses)],4,fun _=>rfl⟩
def DE (cv1:(List Aa))(a_:Ae)(b:Ae):Option Int :=
 (gi cv1 b.clause).bind fun x =>
 (gi cv1 a_.clause).bind fun x1 =>
 some (À (x.Rank-x1.Rank))
def Aw:Nat->Int->Nat->(List Aa)->Int->(List Ae)->Option (List Ae)
 |0,_,_,_,_,_=>none
 |n+1,a_,n_,cv1,j,data4 =>
  ((bif (decide (a_<j)) then
   (gx n_ j).bind fun _ =>
   (gi data4 j).bind fun x2 =>
   (gx n_ (À (j-1))).bind fun _ =>
   (gi data4 (À (j-1))).bind fun x3 =>
   (DE cv1 x2 x3).bind fun s =>
   some (decide (s<0))
  else
   some false
  ):Option Bool).bind fun v34 =>
   bif v34 then
    (gx n_ (À (j-1))).bind fun _ =>
    (gi data4 (À (j-1))).bind fun x =>
    (gx n_ j).bind fun _ =>
    (gi data4 j).bind fun x1 =>
    (Lv data4 j x).bind fun data5 =>
    (Lv data5 (À (j-1)) x1).bind fun data6 =>
    Aw n a_ n_ cv1 (À (j-1)) data6
   else
    some data4
def AD:Nat->Int->Int->Nat->(List Aa)->Int->(List Ae)->Option (List Ae)
 |0,_,_,_,_,_,_=>none
 |n+1,b,a_,n_,cv1,i,data2 =>
  bif (decide (i<b)) then
   ((Aw n a_ n_ cv1 i data2
   ):Option (List Ae)).bind fun data3 =>
    AD n b a_ n_ cv1 (À (i+1)) data3
  else
   some data2
def AA (n:Nat)(cv1:(List Aa))(n_:Nat)(data:(List Ae))(a_:Int)(b:Int):Option (List Ae) :=
 ((AD n b a_ n_ cv1 (À (a_+1)) data
 ):Option (List Ae)).bind fun data1 =>
  some data1
def AM:Nat->Int->Nat->Int->Int->Int->(List Ae)->Option (List Ae)
 |0,_,_,_,_,_,_=>none
 |n+1,n_1,n_,b,a_,i,data2 =>
  bif (decide (i<n_1)) then
   (gx n_ (À (b+i))).bind fun _ =>
   (gi data2 (À (b+i))).bind fun x =>
   (gx n_ (À (a_+i))).bind fun _ =>
   (gi data2 (À (a_+i))).bind fun x1 =>
   (Lv data2 (À (a_+i)) x).bind fun data3 =>
   (Lv data3 (À (b+i)) x1).bind fun data4 =>
   AM n n_1 n_ b a_ (À (i+1)) data4
  else
   some data2
def Bn (n:Nat)(cv1:(List Aa))(n_:Nat)(data:(List Ae))(a_:Int)(b:Int)(n_1:Int):Option (List Ae) :=
 ((AM n n_1 n_ b a_ 0 data
 ):Option (List Ae)).bind fun data1 =>
  some data1
def A1:Nat->(List Aa)->Nat->Int->Int->Int->(List Ae)->Option (Int×(List Ae))
 |0,_,_,_,_,_,_=>none
 |n+1,cv1,n_,m_1,i1,j,data3 =>
  bif (i1 != j) then
   bif (decide (j<i1)) then
    (Bn n cv1 n_ data3 (À (m_1-i1)) m_1 j).bind fun data4 =>
    A1 n cv1 n_ m_1 (À (i1-j)) j data4
   else
    (Bn n cv1 n_ data3 (À (m_1-i1)) (À ((À (m_1+j))-i1)) i1).bind fun data5 =>
    A1 n cv1 n_ m_1 i1 (À (j-i1)) data5
  else
   some (i1,data3)
def B2 (n:Nat)(cv1:(List Aa))(n_:Nat)(data:(List Ae))(a_:Int)(m_1:Int)(b:Int):Option (List Ae) :=
 ((A1 n cv1 n_ m_1 (À (m_1-a_)) (À (b-m_1)) data
 ):Option (Int×(List Ae))).bind fun y=>match y with
 |(i,data1) =>
  (Bn n cv1 n_ data1 (À (m_1-i)) m_1 i).bind fun data2 =>
  some data2
mutual
def AT:Nat->Int->Nat->Int->(List Ae)->Option (List Ae)
 |0,_,_,_,_=>none
 |n+1,i,n_,k,data2 =>
  bif (decide (k<(À (i-1)))) then
   (gx n_ (À (k+1))).bind fun _ =>
   (gi data2 (À (k+1))).bind fun x =>
   (gx n_ k).bind fun _ =>
   (gi data2 k).bind fun x1 =>
   (Lv data2 k x).bind fun data3 =>
   (Lv data3 (À (k+1)) x1).bind fun data4 =>
   AT n i n_ (À (k+1)) data4
  else
   some data2
def A3:Nat->Nat->(List Ae)->Int->(List Aa)->Int->Int->Option Int
 |0,_,_,_,_,_,_=>none
 |n+1,n_,data,a_,cv1,i1,j =>
  bif (decide (i1<j)) then
   (gx n_ (À ((IntKind.u64.wrap (À (i1+j))).fdiv (2 ^ min (1:Int).toNat IntKind.u64.bits)))).bind fun _ =>
   (gi data (À ((IntKind.u64.wrap (À (i1+j))).fdiv (2 ^ min (1:Int).toNat IntKind.u64.bits)))).bind fun x2 =>
   (gx n_ a_).bind fun _ =>
   (gi data a_).bind fun x3 =>
   (DE cv1 x2 x3).bind fun s =>
   bif (decide (s<0)) then
    A3 n n_ data a_ cv1 (À ((À ((IntKind.u64.wrap (À (i1+j))).fdiv (2 ^ min (1:Int).toNat IntKind.u64.bits)))+1)) j
   else
    A3 n n_ data a_ cv1 i1 (À ((IntKind.u64.wrap (À (i1+j))).fdiv (2 ^ min (1:Int).toNat IntKind.u64.bits)))
  else
   some i1
def AS:Nat->Int->Nat->Int->(List Ae)->Option (List Ae)
 |0,_,_,_,_=>none
 |n+1,i2,n_,k1,data6 =>
  bif (decide (i2<k1)) then
   (gx n_ (À (k1-1))).bind fun _ =>
   (gi data6 (À (k1-1))).bind fun x4 =>
   (gx n_ k1).bind fun _ =>
   (gi data6 k1).bind fun x5 =>
   (Lv data6 k1 x4).bind fun data7 =>
   (Lv data7 (À (k1-1)) x5).bind fun data8 =>
   AS n i2 n_ (À (k1-1)) data8
  else
   some data6
def A2:Nat->Nat->Int->(List Ae)->(List Aa)->Int->Int->Option Int
 |0,_,_,_,_,_,_=>none
 |n+1,n_,m_1,data,cv1,i3,j1 =>
  bif (decide (i3<j1)) then
   (gx n_ m_1).bind fun _ =>
   (gi data m_1).bind fun x6 =>
   (gx n_ (À ((IntKind.u64.wrap (À (i3+j1))).fdiv (2 ^ min (1:Int).toNat IntKind.u64.bits)))).bind fun _ =>
   (gi data (À ((IntKind.u64.wrap (À (i3+j1))).fdiv (2 ^ min (1:Int).toNat IntKind.u64.bits)))).bind fun x7 =>
   (DE cv1 x6 x7).bind fun s1 =>
   bif (!(decide (s1<0))) then
    A2 n n_ m_1 data cv1 (À ((À ((IntKind.u64.wrap (À (i3+j1))).fdiv (2 ^ min (1:Int).toNat IntKind.u64.bits)))+1)) j1
   else
    A2 n n_ m_1 data cv1 i3 (À ((IntKind.u64.wrap (À (i3+j1))).fdiv (2 ^ min (1:Int).toNat IntKind.u64.bits)))
  else
   some i3
def Av:Nat->Nat->Int->Int->Int->(List Ae)->(List Aa)->Int->Int->Option Int
 |0,_,_,_,_,_,_,_,_=>none
 |n+1,n_,a_,b,m_1,data,cv1,start2,r_1 =>
  bif (decide (start2<r_1)) then
   (gx n_ (À ((À ((À ((À ((IntKind.u64.wrap (À (a_+b))).fdiv (2 ^ min (1:Int).toNat IntKind.u64.bits)))+m_1))-1))-(À ((IntKind.u64.wrap (À (start2+r_1))).fdiv (2 ^ min (1:Int).toNat IntKind.u64.bits)))))).bind fun _ =>
   (gi data (À ((À ((À ((À ((IntKind.u64.wrap (À (a_+b))).fdiv (2 ^ min (1:Int).toNat IntKind.u64.bits)))+m_1))-1))-(À ((IntKind.u64.wrap (À (start2+r_1))).fdiv (2 ^ min (1:Int).toNat IntKind.u64.bits)))))).bind fun x8 =>
   (gx n_ (À ((IntKind.u64.wrap (À (start2+r_1))).fdiv (2 ^ min (1:Int).toNat IntKind.u64.bits)))).bind fun _ =>
   (gi data (À ((IntKind.u64.wrap (À (start2+r_1))).fdiv (2 ^ min (1:Int).toNat IntKind.u64.bits)))).bind fun x9 =>
   (DE cv1 x8 x9).bind fun s2 =>
   bif (!(decide (s2<0))) then
    Av n n_ a_ b m_1 data cv1 (À ((À ((IntKind.u64.wrap (À (start2+r_1))).fdiv (2 ^ min (1:Int).toNat IntKind.u64.bits)))+1)) r_1
   else
    Av n n_ a_ b m_1 data cv1 start2 (À ((IntKind.u64.wrap (À (start2+r_1))).fdiv (2 ^ min (1:Int).toNat IntKind.u64.bits)))
  else
   some start2
def Ap:Nat->(List Aa)->Nat->(List Ae)->Int->Int->Int->Option (List Ae)
 |0,_,_,_,_,_,_=>none
 |n+1,cv1,n_,data,a_,m_1,b =>
  bif ((À (m_1-a_)) == 1) then
   ((A3 n n_ data a_ cv1 m_1 b
   ):Option Int).bind fun i =>
    ((AT n i n_ a_ data
    ):Option (List Ae)).bind fun data1 =>
     some data1
  else
   bif ((À (b-m_1)) == 1) then
    ((A2 n n_ m_1 data cv1 a_ m_1
    ):Option Int).bind fun i2 =>
     ((AS n i2 n_ m_1 data
     ):Option (List Ae)).bind fun data5 =>
      some data5
   else
    ((bif (decide ((À ((IntKind.u64.wrap (À (a_+b))).fdiv (2 ^ min (1:Int).toNat IntKind.u64.bits)))<m_1)) then
     some ((À ((À ((À ((IntKind.u64.wrap (À (a_+b))).fdiv (2 ^ min (1:Int).toNat IntKind.u64.bits)))+m_1))-b)),(À ((IntKind.u64.wrap (À (a_+b))).fdiv (2 ^ min (1:Int).toNat IntKind.u64.bits))))
    else
     some (a_,m_1)
    ):Option (Int×Int)).bind fun y4=>match y4 with
    |(start,r_) =>
     ((Av n n_ a_ b m_1 data cv1 start r_
     ):Option Int).bind fun start1 =>
      ((bif (decide (start1<m_1)) then
       some (decide (m_1<(À ((À ((À ((IntKind.u64.wrap (À (a_+b))).fdiv (2 ^ min (1:Int).toNat IntKind.u64.bits)))+m_1))-start1))))
      else
       some false
      ):Option Bool).bind fun v185 =>
       ((bif v185 then
        (B2 n cv1 n_ data start1 m_1 (À ((À ((À ((IntKind.u64.wrap (À (a_+b))).fdiv (2 ^ min (1:Int).toNat IntKind.u64.bits)))+m_1))-start1))).bind fun data13 =>
        some data13
       else
        some data
       ):Option (List Ae)).bind fun data9 =>
        ((bif (decide (a_<start1)) then
         some (decide (start1<(À ((IntKind.u64.wrap (À (a_+b))).fdiv (2 ^ min (1:Int).toNat IntKind.u64.bits)))))
        else
         some false
        ):Option Bool).bind fun v199 =>
         ((bif v199 then
          (Ap n cv1 n_ data9 a_ start1 (À ((IntKind.u64.wrap (À (a_+b))).fdiv (2 ^ min (1:Int).toNat IntKind.u64.bits)))).bind fun data12 =>
          some data12
         else
          some data9
         ):Option (List Ae)).bind fun data10 =>
          ((bif (decide ((À ((IntKind.u64.wrap (À (a_+b))).fdiv (2 ^ min (1:Int).toNat IntKind.u64.bits)))<(À ((À ((À ((IntKind.u64.wrap (À (a_+b))).fdiv (2 ^ min (1:Int).toNat IntKind.u64.bits)))+m_1))-start1)))) then
           some (decide ((À ((À ((À ((IntKind.u64.wrap (À (a_+b))).fdiv (2 ^ min (1:Int).toNat IntKind.u64.bits)))+m_1))-start1))<b))
          else
           some false
          ):Option Bool).bind fun v213 =>
           bif v213 then
            (Ap n cv1 n_ data10 (À ((IntKind.u64.wrap (À (a_+b))).fdiv (2 ^ min (1:Int).toNat IntKind.u64.bits))) (À ((À ((À ((IntKind.u64.wrap (À (a_+b))).fdiv (2 ^ min (1:Int).toNat IntKind.u64.bits)))+m_1))-start1)) b).bind fun data11 =>
            some data11
           else
            some data10
end
def A9:Nat->Int->(List Aa)->Nat->Int->Int->Int->(List Ae)->Option (Int×Int×(List Ae))
 |0,_,_,_,_,_,_,_=>none
 |n+1,n_1,cv1,n_,blockSize,a_3,b3,data7 =>
  bif (decide (b3<=n_1)) then
   (Ap n cv1 n_ data7 a_3 (À (a_3+blockSize)) b3).bind fun data8 =>
   A9 n n_1 cv1 n_ blockSize b3 (À (b3+(À (2*blockSize)))) data8
  else
   some (a_3,b3,data7)
def A4:Nat->Int->(List Aa)->Nat->Int->Int->Int->(List Ae)->Option (List Ae)
 |0,_,_,_,_,_,_,_=>none
 |n+1,n_1,cv1,n_,blockSize,a_1,b1,data4 =>
  bif (decide (blockSize<n_1)) then
   ((A9 n n_1 cv1 n_ blockSize 0 (À (2*blockSize)) data4
   ):Option (Int×Int×(List Ae))).bind fun y2=>match y2 with
   |(a_2,b2,data5) =>
    bif (decide ((À (a_2+blockSize))<n_1)) then
     (Ap n cv1 n_ data5 a_2 (À (a_2+blockSize)) n_1).bind fun data6 =>
     A4 n n_1 cv1 n_ (À (blockSize*2)) a_2 b2 data6
    else
     A4 n n_1 cv1 n_ (À (blockSize*2)) a_2 b2 data5
  else
   some data4
def A8:Nat->Int->(List Aa)->Nat->Int->Int->(List Ae)->Option (Int×Int×(List Ae))
 |0,_,_,_,_,_,_=>none
 |n+1,n_1,cv1,n_,a_4,b4,data9 =>
  bif (decide (b4<=n_1)) then
   (AA n cv1 n_ data9 a_4 b4).bind fun data10 =>
   A8 n n_1 cv1 n_ b4 (À (b4+20)) data10
  else
   some (a_4,b4,data9)
def B8 (n:Nat)(cv1:(List Aa))(n_:Nat)(data:(List Ae))(n_1:Int):Option (List Ae) :=
 ((A8 n n_1 cv1 n_ 0 20 data
 ):Option (Int×Int×(List Ae))).bind fun y=>match y with
 |(a_,b,data1) =>
  (AA n cv1 n_ data1 a_ n_1).bind fun data2 =>
  ((A4 n n_1 cv1 n_ 20 a_ b data2
  ):Option (List Ae)).bind fun data3 =>
   some data3
def Ca (n:Nat)(cv1:(List Aa))(n_:Nat)(x:(List Ae)):Option (List Ae) :=
 (B8 n cv1 n_ x (n_:Int)).bind fun x1 =>
 some x1
def Cx:Nat->(List Aa)->Ai->Int->(List Ae)->Int->Option (List Ae)
 |0,_,_,_,_,_=>none
 |n+1,l,d,known,out1,v30 =>
  bif (decide (v30<(l.length:Int))) then
   (gi l v30).bind fun x =>
   (Eu n x d known).bind fun s =>
   bif s.2.2.1 then
    (CC 24 out1 [(Ae.mk s.1 s.2.1 v30)]).bind fun l2 =>
    Cx n l d known l2 (À (v30+1))
   else
    Cx n l d known out1 (À (v30+1))
  else
   some out1
def BY (n:Nat)(l:(List Aa))(d:Ai)(known:Int):Option ((List Ae)×Int) :=
 (Fw n l).bind fun e =>
 bif (e != 0) then
  some ([],e)
 else
  (DI n d known).bind fun e1 =>
  bif (e1 != 0) then
   some ([],e1)
  else
   ((Cx n l d known [] 0
   ):Option (List Ae)).bind fun out =>
    bif out.isEmpty then
     some ([],0)
    else
     (Ca n l out.length out).bind fun l1 =>
     bif (l1.length == out.length) then
      some (l1,0)
     else
      none
def DO (s:Ae)(day:Int):Option Bool :=
 ((bif (decide (s.from_<=day)) then
  some (decide (day<=s.to_))
 else
  some false
 ):Option Bool).bind fun v4 =>
  some v4
def Ec (h_:Int)(other:Int):Option Int :=
 bif ((bits .and .i64 h_ other) == 0) then
  some h_
 else
  some (bits .and .i64 h_ other)
def Ck:Nat->(List Ae)->(List Aa)->Aa->Int->Int->Int->Bool->Option (Int×Int×Bool)
 |0,_,_,_,_,_,_,_=>none
 |n+1,s,l,x1,day,i2,common1,some_1 =>
  ((bif (decide (i2<(s.length:Int))) then
   (gi s i2).bind fun x4 =>
   (gi l x4.clause).bind fun x5 =>
   some (x5.Rank == x1.Rank)
  else
   some false
  ):Option Bool).bind fun v43 =>
   bif v43 then
    (gi s i2).bind fun x2 =>
    (gi l x2.clause).bind fun x3 =>
    ((bif (x3.Kind == 3) then
     (DO x2 day).bind fun a_ =>
     some a_
    else
     some false
    ):Option Bool).bind fun v64 =>
     bif v64 then
      Ck n s l x1 day (À (i2+1)) (bits .and .i64 common1 x3.Houses) true
     else
      Ck n s l x1 day (À (i2+1)) common1 some_1
   else
    some (i2,common1,some_1)
def Cw:Nat->(List Ae)->(List Aa)->Int->Int->Int->Option (Int ⊕ Int)
 |0,_,_,_,_,_=>none
 |n+1,s,l,day,out1,i =>
  bif (decide (i<(s.length:Int))) then
   (gi s i).bind fun x =>
   (gi l x.clause).bind fun x1 =>
   ((Ck n s l x1 day i 4095 false
   ):Option (Int×Int×Bool)).bind fun y1=>match y1 with
   |(i1,common,some_) =>
    ((bif some_ then
     some (common == 0)
    else
     some false
    ):Option Bool).bind fun v71 =>
     bif v71 then
      some (.inr 0)
     else
      bif some_ then
       (Ec out1 common).bind fun out2 =>
       Cw n s l day out2 i1
      else
       Cw n s l day out1 i1
  else
   some (.inl out1)
def Jp (n:Nat)(l:(List Aa))(s:(List Ae))(day:Int):Option Int :=
 ((Cw n s l day 4095 0
 ):Option (Int ⊕ Int)).bind fun y=>match y with
 |.inl out =>
  some out
 |.inr o=>some o
def Db:Nat->(List Ae)->(List Aa)->Int->Int->Int->Int->(List Int)->Option (Int×(List Int))
 |0,_,_,_,_,_,_,_=>none
 |n+1,s,l,day,rank,v19,out2,out3 =>
  bif (decide (v19<(s.length:Int))) then
   (gi s v19).bind fun x =>
   (gi l x.clause).bind fun x1 =>
   ((bif (x1.Kind == 3) then
    some true
   else
    (DO x day).bind fun a_ =>
    bif (!a_) then
     some true
    else
     some (decide (x1.Rank<rank))
   ):Option Bool).bind fun v42 =>
    bif v42 then
     Db n s l day rank (À (v19+1)) out2 out3
    else
     (CC 8 out3 [x.clause]).bind fun l1 =>
     bif (out2 == 0) then
      Db n s l day x1.Rank (À (v19+1)) x1.Kind l1
     else
      bif (out2 != x1.Kind) then
       Db n s l day x1.Rank (À (v19+1)) 3 l1
      else
       Db n s l day x1.Rank (À (v19+1)) out2 l1
  else
   some (out2,out3)
def GP (n:Nat)(l:(List Aa))(s:(List Ae))(day:Int):Option A7 :=
 (Jp n l s day).bind fun w =>
 ((Db n s l day (-1) 0 0 []
 ):Option (Int×(List Int))).bind fun y=>match y with
 |(out,out1) =>
  bif out1.isEmpty then
   some (A7.mk out w [])
  else
   (PC out1).bind fun data =>
   bif (data.length == out1.length) then
    some (A7.mk out w data)
   else
    none
def CH:Nat->(List Ae)->Int->(List Int)->Option (List Int)
 |0,_,_,_=>none
 |n+1,s,v9,l1 =>
  bif (decide (v9<(s.length:Int))) then
   (gi s v9).bind fun x =>
   (CC 8 l1 [x.from_,(À (x.to_+1))]).bind fun l2 =>
   CH n s (À (v9+1)) l2
  else
   some l1
def EY (n:Nat)(s:(List Ae)):Option (List Int) :=
 ((CH n s 0 [0]
 ):Option (List Int)).bind fun l =>
  bif l.isEmpty then
   none
  else
   (PC l).bind fun data =>
   bif (data.length == l.length) then
    some data
   else
    none
def Bi (n:Nat)(l:(List Aa))(s:((List Ae)×Int)):List Int->(List Al)->Option ((List Al)×Int)
 | [],out =>
  some (out,0)
 |day::days,out =>
  (GP n l s.1 day).bind fun x =>
  bif out.isEmpty then
   (CC 32 [] [(Al.mk day 41666 x.State x.Houses)]).bind fun l1 =>
   Bi n l s days l1
  else
   ((bif (decide (0<(out.length:Int))) then
    (gx out.length (À ((out.length:Int)-1))).bind fun _ =>
    (gi out (À ((out.length:Int)-1))).bind fun x1 =>
    bif (x1.State == x.State) then
     some (x1.Houses == x.Houses)
    else
     some false
   else
    some false
   ):Option Bool).bind fun v56 =>
    bif v56 then
     bif (out.length == out.length) then
      Bi n l s days out
     else
      none
    else
     bif (decide (0<(out.length:Int))) then
      (gx out.length (À ((out.length:Int)-1))).bind fun _ =>
      (Ur out (À ((out.length:Int)-1)) (fun z=>{ z with To:=(À (day-1)) })).bind fun l2 =>
      bif (l2.length == out.length) then
       (CC 32 l2 [(Al.mk day 41666 x.State x.Houses)]).bind fun l3 =>
       Bi n l s days l3
      else
       none
     else
      bif (out.length == out.length) then
       (CC 32 out [(Al.mk day 41666 x.State x.Houses)]).bind fun l4 =>
       Bi n l s days l4
      else
       none
def Cj (n:Nat)(l:(List Aa))(d:Ai)(known:Int):Option ((List Al)×Int) :=
 (BY n l d known).bind fun s =>
 bif (s.2 != 0) then
  some ([],s.2)
 else
  (EY n s.1).bind fun zs =>
  bif zs.isEmpty then
   none
  else
  bif decide (zs.length*8<=140737488351232) then
   Bi n l s (BV zs) []
  else
   none
def H8 (n:Nat)(l:(List Aa))(d:Ai)(day:Int)(known:Int):Option (A7×Int) :=
 (BY n l d known).bind fun s =>
 bif (s.2 != 0) then
  some ((A7.mk 0 0 []),s.2)
 else
  ((bif (decide (day<0)) then
   some true
  else
   some (decide (41666<day))
  ):Option Bool).bind fun v28 =>
   bif v28 then
    some ((A7.mk 0 0 []),1)
   else
    (GP n l s.1 day).bind fun a_ =>
    some (a_,0)
def BA:Nat->((List Al)×Int)->Ai->Int->Int->Int->Option (Int×Int)
 |0,_,_,_,_,_=>none
 |n+1,s,d,keep1,drop1,v24 =>
  bif (decide (v24<(s.1.length:Int))) then
   (gi s.1 v24).bind fun x =>
   bif (x.State == 1) then
    BA n s d x.To drop1 (À (v24+1))
   else
    ((bif (x.State == 2) then
     some (decide (d.Stored<=x.To))
    else
     some false
    ):Option Bool).bind fun v34 =>
     bif v34 then
      BA n s d keep1 (if (if d.Stored > x.From then d.Stored else x.From)<drop1 then (if d.Stored > x.From then d.Stored else x.From) else drop1) (À (v24+1))
     else
      BA n s d keep1 drop1 (À (v24+1))
  else
   some (keep1,drop1)
def EZ (n:Nat)(l:(List Aa))(d:Ai)(known:Int):Option (Int×Int×Int) :=
 (Cj n l d known).bind fun s =>
 bif (s.2 != 0) then
  some (0,0,s.2)
 else
  ((BA n s d (-1) 41667 0
  ):Option (Int×Int)).bind fun y=>match y with
  |(keep,drop) =>
   some (keep,drop,0)
def CP (n:Nat)(l:(List Aa))(s:((List Ae)×Int))(s1:((List Ae)×Int)):List Int->Option (Int×Int)
 | [] =>
  some (41667,0)
 |day::days =>
  (GP n l s.1 day).bind fun x =>
  (GP n l s1.1 day).bind fun y1 =>
  ((bif (x.State != y1.State) then
   some true
  else
   some (x.Houses != y1.Houses)
  ):Option Bool).bind fun v61 =>
   bif v61 then
    some (day,0)
   else
    CP n l s s1 days
def CI (n:Nat)(l:(List Aa))(d:Ai)(known:Int)(later:Int):Option (Int×Int) :=
 (BY n l d known).bind fun s =>
 bif (s.2 != 0) then
  some (0,s.2)
 else
  (BY n l d later).bind fun s1 =>
  bif (s1.2 != 0) then
   some (0,s1.2)
  else
   ((bif s.1.isEmpty then
    (CC 24 [] s1.1).bind fun l1 =>
    (EY n l1).bind fun zs =>
    some zs
   else
    (CC 24 [] s.1).bind fun c =>
    (CC 24 c s1.1).bind fun l2 =>
    (EY n l2).bind fun zs1 =>
    some zs1
   ):Option (List Int)).bind fun q =>
    bif q.isEmpty then
     none
    else
    bif decide (q.length*8<=140737488351232) then
     CP n l s s1 (BV q)
    else
     none
abbrev Mk (l:List Ae):PV:=hP l Df
abbrev Yz (l:List Al):PV:=hP l CM
abbrev kX6 (x:Ae):List PV:=[iP x.from_,iP x.to_,iP x.clause]
abbrev Rp (x:A7):List PV:=[iP x.State,iP x.Houses,hI x.By]
abbrev kX8 (x:Al):List PV:=[iP x.From,iP x.To,iP x.State,iP x.Houses]
end Go.Sp
namespace Go.Sp
open Go Go.Vl
set_option linter.unusedVariables false
def E7:Nat->A7->A7->Int->Option (Unit ⊕ Bool)
 |0,_,_,_=>none
 |n+1,a_,b,k =>
  bif (decide (k<(a_.By.length:Int))) then
   (gi a_.By k).bind fun x =>
   (gi b.By k).bind fun x1 =>
   bif (x != x1) then
    some (.inr false)
   else
    E7 n a_ b (À (k+1))
  else
   some (.inl ())
def HL (n:Nat)(a_:A7)(b:A7):Option Bool :=
 ((bif (a_.State != b.State) then
  some true
 else
  bif (a_.Houses != b.Houses) then
   some true
  else
   some ((a_.By.length:Int) != (b.By.length:Int))
 ):Option Bool).bind fun v26 =>
  bif v26 then
   some false
  else
   ((E7 n a_ b 0
   ):Option (Unit ⊕ Bool)).bind fun y1=>match y1 with
   |.inl _ =>
    some true
   |.inr o=>some o
def BI:Nat->(List Al)->(List Al)->Int->Option (Unit ⊕ Bool)
 |0,_,_,_=>none
 |n+1,a_,b,k =>
  bif (decide (k<(a_.length:Int))) then
   (gi a_ k).bind fun x =>
   (gi b k).bind fun x1 =>
   bif (!((x.From == x1.From)&&((x.To == x1.To)&&((x.State == x1.State)&&((x.Houses == x1.Houses)&&true))))) then
    some (.inr false)
   else
    BI n a_ b (À (k+1))
  else
   some (.inl ())
def CL (n:Nat)(a_:(List Al))(b:(List Al)):Option Bool :=
 bif ((a_.length:Int) != (b.length:Int)) then
  some false
 else
  ((BI n a_ b 0
  ):Option (Unit ⊕ Bool)).bind fun y=>match y with
  |.inl _ =>
   some true
  |.inr o=>some o
def IN (n:Nat)(l:(List Aa))(d:Ai):Option Bool :=
 (((Kh n l 300).bind fun f =>
 bif f then
  bif (decide ((d.Facts.length:Int)<=30)) then
   some true
  else
   bif (decide (200<(d.Facts.length:Int))) then
    some (decide ((d.Facts.length:Int)<205))
   else
    some false
 else
  some false
 ):Option Bool).bind fun v4 =>
  some v4
def H4 (n:Nat)(l:(List Aa))(d:Ai)(day:Int)(known:Int)(want:A7):Option Bool :=
 (H8 n l d day known).bind fun a_ =>
 ((bif (a_.2 == 0) then
  (HL n a_.1 want).bind fun s =>
  some s
 else
  some false
 ):Option Bool).bind fun v10 =>
  some v10
def KL (n:Nat):Option Bool :=
 (Ix n ⟨#[107,101,101,112,32,116,97,120,32,50,32,48,32,40,115,116,111,114,101,100,41,32,40,115,116,111,114,101,100,32,43,32,49,48,48,41,32,40,48,32,61,61,32,48,41,59,32,100,114,111,112,32,119,105,115,104,32,49,32,48,32,40,97,115,107,101,100,40,111,119,110,101,114,41,41,32,40,110,101,118,101,114,41,32,40,97,115,107,101,100,40,111,119,110,101,114,41,32,60,32,110,101,118,101,114,41,59,32,100,114,111,112,32,101,110,100,32,50,32,48,32,40,115,116,111,114,101,100,32,43,32,49,48,48,41,32,40,110,101,118,101,114,41,32,40,48,32,61,61,32,48,41,59,32,112,108,97,99,101,32,104,111,109,101,32,49,32,48,32,40,100,97,121,40,48,41,41,32,40,110,101,118,101,114,41,32,40,48,32,61,61,32,48,41,32,45,62,32,48,32,50,59,32,112,108,97,99,101,32,119,97,114,32,51,32,50,48,32,40,100,97,121,40,53,48,41,41,32,40,110,101,118,101,114,41,32,40,48,32,61,61,32,48,41,32,45,62,32,49,32,50,59]⟩).bind fun c =>
 (some [(Br.mk 3 4 30 40)]).bind fun l =>
 ((bif ((c.2.At == 0)&&((c.2.E == 0)&&true)) then
  (some [0]).bind fun l7 =>
  (H4 n c.1 (Ai.mk l 10 4) 30 40 (A7.mk 1 5 l7)).bind fun i3 =>
  bif i3 then
   (H4 n c.1 (Ai.mk l 10 4) 5 40 (A7.mk 0 5 [])).bind fun i4 =>
   bif i4 then
    (some [0]).bind fun l8 =>
    (H4 n c.1 (Ai.mk l 10 4) 60 40 (A7.mk 1 4 l8)).bind fun i5 =>
    some i5
   else
    some false
  else
   some false
 else
  some false
 ):Option Bool).bind fun one =>
  (((some [0,2]).bind fun l4 =>
  (H4 n c.1 (Ai.mk l 10 4) 110 40 (A7.mk 3 4 l4)).bind fun i =>
  bif i then
   (some [2]).bind fun l5 =>
   (H4 n c.1 (Ai.mk l 10 4) 120 40 (A7.mk 2 4 l5)).bind fun i1 =>
   bif i1 then
    (some [0]).bind fun l6 =>
    (H4 n c.1 (Ai.mk l 10 4) 60 10 (A7.mk 1 5 l6)).bind fun i2 =>
    some i2
   else
    some false
  else
   some false
  ):Option Bool).bind fun two =>
   (Cj n c.1 (Ai.mk l 10 4) 40).bind fun s =>
   (EZ n c.1 (Ai.mk l 10 4) 40).bind fun b =>
   (CI n c.1 (Ai.mk l 10 4) 10 40).bind fun l1 =>
   (CI n c.1 (Ai.mk l 10 4) 20 40).bind fun l2 =>
   (some [(Al.mk 0 9 0 5),(Al.mk 10 49 1 5),(Al.mk 50 109 1 4),(Al.mk 110 110 3 4),(Al.mk 111 41666 2 4)]).bind fun l3 =>
   ((bif one then
    bif two then
     bif (s.2 == 0) then
      (CL n s.1 l3).bind fun s1 =>
      bif s1 then
       bif (b.2.2 == 0) then
        bif (b.1 == 109) then
         bif (b.2.1 == 111) then
          bif (l1.2 == 0) then
           bif (l1.1 == 50) then
            bif (l2.2 == 0) then
             some (l2.1 == 41667)
            else
             some false
           else
            some false
          else
           some false
         else
          some false
        else
         some false
       else
        some false
      else
       some false
     else
      some false
    else
     some false
   else
    some false
   ):Option Bool).bind fun v0_ =>
    some v0_
def Yi:Option Bool:=KL 60
end Go.Sp

namespace Go.Proofs.YtehfpameijkafaaGreatDoor
open Go.ChangeShapes Go.WideShapes Go.ChangeAt Go.RowKit Go.Q Go.Vl Go.Sp
set_option maxRecDepth 100000
theorem Uf {w:World}{r:Reach}{b0:Nat}{v:Value}(h:Value.okWide Tryz.prog w r b0 26 v):∃ cs,v=.agg cs:=by
 simp only [Value.okWide,Tryz.underlying26] at h
 obtain⟨cs,e,_⟩:=h
 exact⟨cs,e⟩
theorem Zj {H:Type}{enc:TypeId×Value->H}{w:World}{held:Bool}{fuel:Nat}{cs:Array Value}{x:DataW H×List MemPlace}(h:DataW.trod enc Tryz.prog w 0 (fun _=>true) held fuel 26 (Value.agg cs).cells.toList=some x)(hl:cs.size=3) :
 ∃ y:Int×Int×Int,∀ φ,V w (UC w) φ (.agg [iP y.1,iP y.2.1,iP y.2.2]) (.agg cs):=by
 have c3:Tryz.prog.cellsOf 3=1:=by kernel_rfl
 have h:DataW.trod enc Tryz.prog w 0 (fun _=>true) held fuel 26 cs.toList=some x:=h
 have hl:cs.toList.length=3:=by simpa using hl
 match a:cs.toList,hl with
 | [v1,v2,v3],_ =>
  rw [a] at h
  obtain⟨xs,m,rfl,rfl,_,hl,b⟩:=DataW.trod_array Tryz.underlying26 h
  have c:=b 0 (by omega)
  have d:=b 1 (by omega)
  have e:=b 2 (by omega)
  rw [c3,Ã (by omega)] at c d e
  obtain⟨k0,e0,_,_⟩:=ÿ Tryz.underlying3 c
  obtain⟨k1,e1,_,_⟩:=ÿ Tryz.underlying3 d
  obtain⟨k2,e2,_,_⟩:=ÿ Tryz.underlying3 e
  have f0:v1=.int .i64 k0:=(Ĵ e0).1
  have f1:v2=.int .i64 k1:=(Ĵ e1).1
  have f2:v3=.int .i64 k2:=(Ĵ e2).1
  clear e0 e1 e2
  subst f0 f1 f2
  refine⟨(k0,k1,k2),Yp ?_⟩
  rw [a]
  exact .cons rfl (fun φ=>.lit _ _) (.cons rfl (fun φ=>.lit _ _) (.cons rfl (fun φ=>.lit _ _) .nil))
theorem Xv {w:World}{r:Reach}{b0:Nat}{cs:Array Value}(h:Value.okWide Tryz.prog w r b0 26 (.agg cs)):cs.size=3:=by
 have c26:Tryz.prog.cellsOf 26=3:=by kernel_rfl
 simp only [Value.okWide,Tryz.underlying26] at h
 obtain⟨c,e,a,_⟩:=h
 rw [c26] at a
 cases e
 exact a
end Go.Proofs.YtehfpameijkafaaGreatDoor
