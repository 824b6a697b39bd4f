/-
  Chapter 32 as plain functions: what the program's and the reference's functions compute, in Option; no program. (Printed by lift.py.)
-/
import Derived.Test.YtgdalmleogphgaaGreatDoorU4
namespace Go.Sp
open Go Go.Vl
set_option linter.unusedVariables false
structure parse_binary where
 sign:ByteArray
 op:Int
 level:Int
def row_parse_binary (x:parse_binary):List PV:=[tP x.sign,iP x.op,iP x.level]
theorem row_parse_binary_eq (x:parse_binary):row_parse_binary x=[tP x.sign,iP x.op,iP x.level]:=rfl
theorem row_parse_binary_len (x:parse_binary):(row_parse_binary x).length=3:=rfl
structure api_Token where
 Kind:Int
 At:Int
 S:ByteArray
 N:Int
def row_api_Token (x:api_Token):List PV:=[iP x.Kind,iP x.At,tP x.S,iP x.N]
theorem row_api_Token_eq (x:api_Token):row_api_Token x=[iP x.Kind,iP x.At,tP x.S,iP x.N]:=rfl
theorem row_api_Token_len (x:api_Token):(row_api_Token x).length=4:=rfl
structure parse_parser where
 l:(List api_Token)
 forms:Int
structure api_Expr where
 Op:Int
 N:Int
 S:ByteArray
 Kids:(List api_Expr)
 At:Int
mutual
def row_api_Expr:api_Expr->List PV
 |.mk fOp fN fS fKids fAt=>[iP fOp,iP fN,tP fS,.sl (rows_api_Expr fKids) .shared,iP fAt]
def rows_api_Expr:List api_Expr->List (List PV)
 | []=>[]
 |x::l=>row_api_Expr x::rows_api_Expr l
end
theorem rows_api_Expr_eq:∀ l:List api_Expr,rows_api_Expr l=l.map row_api_Expr
 | []=>rfl
 |x::l=>by rw [rows_api_Expr,rows_api_Expr_eq l];rfl
theorem row_api_Expr_eq (x:api_Expr):row_api_Expr x=[iP x.Op,iP x.N,tP x.S,hP x.Kids row_api_Expr,iP x.At]:=by
 cases x;rw [row_api_Expr];simp only [rows_api_Expr_eq]
theorem row_api_Expr_len (x:api_Expr):(row_api_Expr x).length=5:=by rw [row_api_Expr_eq];rfl
structure api_Arg where
 Kind:Int
 N:Int
 S:ByteArray
 E:api_Expr
 At:Int
def row_api_Arg (x:api_Arg):List PV:=[iP x.Kind,iP x.N,tP x.S,iP x.E.Op,iP x.E.N,tP x.E.S,hP x.E.Kids row_api_Expr,iP x.E.At,iP x.At]
theorem row_api_Arg_eq (x:api_Arg):row_api_Arg x=[iP x.Kind,iP x.N,tP x.S,iP x.E.Op,iP x.E.N,tP x.E.S,hP x.E.Kids row_api_Expr,iP x.E.At,iP x.At]:=rfl
theorem row_api_Arg_len (x:api_Arg):(row_api_Arg x).length=9:=rfl
structure api_Form where
 Word:ByteArray
 Args:(List api_Arg)
 Body:(List api_Form)
 At:Int
mutual
def row_api_Form:api_Form->List PV
 |.mk fWord fArgs fBody fAt=>[tP fWord,hP fArgs row_api_Arg,.sl (rows_api_Form fBody) .shared,iP fAt]
def rows_api_Form:List api_Form->List (List PV)
 | []=>[]
 |x::l=>row_api_Form x::rows_api_Form l
end
theorem rows_api_Form_eq:∀ l:List api_Form,rows_api_Form l=l.map row_api_Form
 | []=>rfl
 |x::l=>by rw [rows_api_Form,rows_api_Form_eq l];rfl
theorem row_api_Form_eq (x:api_Form):row_api_Form x=[tP x.Word,hP x.Args row_api_Arg,hP x.Body row_api_Form,iP x.At]:=by
 cases x;rw [row_api_Form];simp only [rows_api_Form_eq]
theorem row_api_Form_len (x:api_Form):(row_api_Form x).length=4:=by rw [row_api_Form_eq];rfl
structure parse_stop where
 At:Int
 E:Int
structure parse_printer where
 l:(List api_Token)
 bad:Bool
structure ref32_Part where
 F:api_Form
 To:Int
 N:Int
 E:Int
structure ref32_Arg where
 A:api_Arg
 To:Int
 E:Int
structure ref32_Got where
 X:api_Expr
 To:Int
 E:Int
structure ref32_Level where
 N:Int
 Op:Int
def row_string (x:ByteArray):List PV:=[tP x]
theorem row_string_eq (x:ByteArray):row_string x=[tP x]:=rfl
theorem row_string_len (x:ByteArray):(row_string x).length=1:=rfl
def parse_operators:Option (List parse_binary) :=
 (some [(parse_binary.mk ⟨#[42]⟩ 7 6),(parse_binary.mk ⟨#[47]⟩ 8 6),(parse_binary.mk ⟨#[37]⟩ 9 6),(parse_binary.mk ⟨#[43]⟩ 10 5),(parse_binary.mk ⟨#[45]⟩ 11 5),(parse_binary.mk ⟨#[61,61]⟩ 12 4),(parse_binary.mk ⟨#[33,61]⟩ 13 4),(parse_binary.mk ⟨#[60]⟩ 14 4),(parse_binary.mk ⟨#[60,61]⟩ 15 4),(parse_binary.mk ⟨#[62]⟩ 16 4),(parse_binary.mk ⟨#[62,61]⟩ 17 4),(parse_binary.mk ⟨#[38,38]⟩ 18 2),(parse_binary.mk ⟨#[124,124]⟩ 19 1)]).bind fun l =>
 some l
def parse_parser_fail (p:parse_parser)(e:Int):Option (Ex parse_stop parse_parser Unit) :=
 (gi p.l 0).bind fun x =>
 some (.pan (parse_stop.mk x.At e) p)
def parse_parser_next (p:parse_parser):Option (api_Token×parse_parser) :=
 (gi p.l 0).bind fun x =>
 (gsl p.l 1 (p.l.length:Int)).bind fun l =>
 some (x,(parse_parser.mk l p.forms))
def parse_parser_is (p:parse_parser)(s:ByteArray):Option Bool :=
 (((gi p.l 0).bind fun x =>
 bif (x.Kind == 4) then
  some (decide (x.S=s))
 else
  some false
 ):Option Bool).bind fun v4 =>
  some v4
def parse_parser_begins (p:parse_parser):Option Bool :=
 (gi p.l 0).bind fun x =>
 ((bif (x.Kind == 1) then
  some (x.Kind == 1)
 else
  bif (x.Kind == 2) then
   some (x.Kind == 2)
  else
   some (x.Kind == 3)
 ):Option Bool).bind fun v10 =>
  bif v10 then
   some true
  else
   (((parse_parser_is p ⟨#[40]⟩).bind fun i =>
   bif i then
    some true
   else
    (parse_parser_is p ⟨#[45]⟩).bind fun i1 =>
    some i1
   ):Option Bool).bind fun v2 =>
    some v2
def parse_parser_number (p:parse_parser):Option (Ex parse_stop parse_parser Int) :=
 (gi p.l 0).bind fun x =>
 bif (x.Kind != 2) then
  (parse_parser_fail p 5).bind fun y=>match y with
  |.ok f p1 =>
   (parse_parser_next p1).bind fun n_ =>
   some (.ok n_.1.N n_.2)
  |.pan e p2=>some (.pan e p2)
 else
  (parse_parser_next p).bind fun n_1 =>
  some (.ok n_1.1.N n_1.2)
def parse_parser_deep (p:parse_parser)(depth:Int)(not_:Bool):Option (Ex parse_stop parse_parser Unit) :=
 (((parse_parser_begins p).bind fun b =>
 bif (!b) then
  bif not_ then
   (parse_parser_is p ⟨#[33]⟩).bind fun i =>
   some (!i)
  else
   some true
 else
  some false
 ):Option Bool).bind fun v16 =>
  ((bif v16 then
   (parse_parser_fail p 5).bind fun y3=>match y3 with
   |.ok f1 p5 =>
    some (.inl (p5.l,p5.forms))
   |.pan e3 p6=>some (.inr (.pan e3 p6))
  else
   some (.inl (p.l,p.forms))
  ):Option (((List api_Token)×Int) ⊕ (Ex parse_stop parse_parser Unit))).bind fun y1=>match y1 with
  |.inl (p1,p2) =>
   bif (decide (30<depth)) then
    (parse_parser_fail (parse_parser.mk p1 p2) 2).bind fun y2=>match y2 with
    |.ok f p3 =>
     some (.ok () p3)
    |.pan e2 p4=>some (.pan e2 p4)
   else
    some (.ok () (parse_parser.mk p1 p2))
  |.inr o=>some o
def parse_parser_need (p:parse_parser)(s:ByteArray):Option (Ex parse_stop parse_parser Unit) :=
 (parse_parser_is p s).bind fun i =>
 bif (!i) then
  (parse_parser_fail p 5).bind fun y=>match y with
  |.ok f p1 =>
   (parse_parser_next p1).bind fun n_ =>
   some (.ok () n_.2)
  |.pan e p2=>some (.pan e p2)
 else
  (parse_parser_next p).bind fun n_1 =>
  some (.ok () n_1.2)
def parse_parser_level_1_s1 (p:(List api_Token))(p1:Int)(n_:Int)(q:Int)(q1:Int)(q2:ByteArray)(q3:(List api_Expr))(q4:Int)(e:Int)(e1:Int)(e2:ByteArray)(e3:(List api_Expr))(e4:Int)(b:parse_binary):Option Bool :=
 ((bif (b.level == n_) then
  (parse_parser_is (parse_parser.mk p p1) b.sign).bind fun i =>
  some i
 else
  some false
 ):Option Bool).bind fun v4 =>
  some v4
def slices_IndexFunc_69_77_s2_l1:Nat->(List parse_binary)->(List api_Token)->Int->Int->Int->Int->ByteArray->(List api_Expr)->Int->Int->Int->ByteArray->(List api_Expr)->Int->Int->Option (Unit ⊕ Int)
 |0,_,_,_,_,_,_,_,_,_,_,_,_,_,_,_=>none
 |n+1,s,p,p1,n_,q,q1,q2,q3,q4,e,e1,e2,e3,e4,v8 =>
  bif (decide (v8<(s.length:Int))) then
   (gi s v8).bind fun x =>
   (parse_parser_level_1_s1 p p1 n_ q q1 q2 q3 q4 e e1 e2 e3 e4 x).bind fun l =>
   bif l then
    some (.inr v8)
   else
    slices_IndexFunc_69_77_s2_l1 n s p p1 n_ q q1 q2 q3 q4 e e1 e2 e3 e4 (IntKind.i64.wrap (v8+1))
  else
   some (.inl ())
def slices_IndexFunc_69_77_s2 (n:Nat)(p:(List api_Token))(p1:Int)(n_:Int)(q:Int)(q1:Int)(q2:ByteArray)(q3:(List api_Expr))(q4:Int)(e:Int)(e1:Int)(e2:ByteArray)(e3:(List api_Expr))(e4:Int)(s:(List parse_binary)):Option Int :=
 ((slices_IndexFunc_69_77_s2_l1 n s p p1 n_ q q1 q2 q3 q4 e e1 e2 e3 e4 0
 ):Option (Unit ⊕ Int)).bind fun y=>match y with
 |.inl _ =>
  some (-1)
 |.inr o=>some o
mutual
def parse_parser_expr:Nat->parse_parser->Int->Option (Ex parse_stop parse_parser api_Expr)
 |0,_,_=>none
 |n+1,p,depth =>
  (parse_parser_deep p depth true).bind fun y=>match y with
  |.ok d p1 =>
   (parse_parser_level n p1 1 depth).bind fun y1=>match y1 with
   |.ok e1 p3 =>
    (parse_parser_is p3 ⟨#[63]⟩).bind fun i =>
    bif (!i) then
     some (.ok e1 p3)
    else
     (parse_parser_next p3).bind fun n_ =>
     (parse_parser_expr n n_.2 (IntKind.i64.wrap (depth+1))).bind fun y2=>match y2 with
     |.ok a_ p5 =>
      (parse_parser_need p5 ⟨#[58]⟩).bind fun y3=>match y3 with
      |.ok n_1 p7 =>
       (parse_parser_expr n p7 (IntKind.i64.wrap (depth+1))).bind fun y4=>match y4 with
       |.ok e5 p9 =>
        (some [e1,a_,e5]).bind fun l =>
        some (.ok (api_Expr.mk 20 0 ⟨#[]⟩ l e1.At) p9)
       |.pan e6 p10=>some (.pan e6 p10)
      |.pan e4 p8=>some (.pan e4 p8)
     |.pan e3 p6=>some (.pan e3 p6)
   |.pan e2 p4=>some (.pan e2 p4)
  |.pan e p2=>some (.pan e p2)
def parse_parser_level_l1:Nat->Int->api_Expr->Int->(List api_Token)->Int->Int->Int->ByteArray->(List api_Expr)->Option (Ex parse_stop parse_parser api_Expr)
 |0,_,_,_,_,_,_,_,_,_=>none
 |n+1,n_1,e2,depth,p5,p6,e4,e5,e6,e7 =>
  (parse_operators).bind fun o_ =>
  (slices_IndexFunc_69_77_s2 n p5 p6 n_1 0 0 ⟨#[]⟩ [] 0 e4 e5 e6 e7 e2.At o_).bind fun k =>
  bif (decide (k<0)) then
   some (.ok (api_Expr.mk e4 e5 e6 e7 e2.At) (parse_parser.mk p5 p6))
  else
   (parse_parser_next (parse_parser.mk p5 p6)).bind fun n_3 =>
   (parse_operators).bind fun o_1 =>
   (gi o_1 k).bind fun x =>
   (parse_parser_level n n_3.2 (IntKind.i64.wrap (n_1+1)) depth).bind fun y3=>match y3 with
   |.ok l p7 =>
    (some [(api_Expr.mk e4 e5 e6 e7 e2.At),l]).bind fun l1 =>
    bif (n_1 == 4) then
     some (.ok (api_Expr.mk x.op 0 ⟨#[]⟩ l1 e2.At) p7)
    else
     parse_parser_level_l1 n n_1 e2 depth p7.l p7.forms x.op 0 ⟨#[]⟩ l1
   |.pan e8 p8=>some (.pan e8 p8)
def parse_parser_level:Nat->parse_parser->Int->Int->Option (Ex parse_stop parse_parser api_Expr)
 |0,_,_,_=>none
 |n+1,p,n_,depth =>
  ((bif (n_ == 3) then
   (parse_parser_is p ⟨#[33]⟩).bind fun i =>
   bif i then
    (parse_parser_next p).bind fun n_4 =>
    (parse_parser_deep n_4.2 (IntKind.i64.wrap (depth+1)) true).bind fun y4=>match y4 with
    |.ok d p9 =>
     (parse_parser_level n p9 3 (IntKind.i64.wrap (depth+1))).bind fun y5=>match y5 with
     |.ok l2 p11 =>
      (some [l2]).bind fun l3 =>
      some (.inr (.ok (api_Expr.mk 5 0 ⟨#[]⟩ l3 n_4.1.At) p11))
     |.pan e10 p12=>some (.inr (.pan e10 p12))
    |.pan e9 p10=>some (.inr (.pan e9 p10))
   else
    some (.inl (IntKind.i64.wrap (n_+1)))
  else
   some (.inl n_)
  ):Option (Int ⊕ (Ex parse_stop parse_parser api_Expr))).bind fun y=>match y with
  |.inl n_1 =>
   bif (n_1 == 7) then
    (parse_parser_neg n p depth).bind fun y1=>match y1 with
    |.ok n_2 p1 =>
     some (.ok n_2 p1)
    |.pan e1 p2=>some (.pan e1 p2)
   else
    (parse_parser_level n p (IntKind.i64.wrap (n_1+1)) depth).bind fun y2=>match y2 with
    |.ok e2 p3 =>
     parse_parser_level_l1 n n_1 e2 depth p3.l p3.forms e2.Op e2.N e2.S e2.Kids
    |.pan e3 p4=>some (.pan e3 p4)
  |.inr o=>some o
def parse_parser_neg:Nat->parse_parser->Int->Option (Ex parse_stop parse_parser api_Expr)
 |0,_,_=>none
 |n+1,p,depth =>
  (parse_parser_is p ⟨#[45]⟩).bind fun i =>
  bif (!i) then
   (parse_parser_atom n p depth).bind fun y=>match y with
   |.ok a_ p1 =>
    some (.ok a_ p1)
   |.pan e p2=>some (.pan e p2)
  else
   (parse_parser_next p).bind fun n_ =>
   (parse_parser_deep n_.2 (IntKind.i64.wrap (depth+1)) false).bind fun y1=>match y1 with
   |.ok d p3 =>
    (parse_parser_neg n p3 (IntKind.i64.wrap (depth+1))).bind fun y2=>match y2 with
    |.ok n_1 p5 =>
     (some [n_1]).bind fun l =>
     some (.ok (api_Expr.mk 6 0 ⟨#[]⟩ l n_.1.At) p5)
    |.pan e2 p6=>some (.pan e2 p6)
   |.pan e1 p4=>some (.pan e1 p4)
def parse_parser_atom_l1:Nat->Int->(List api_Token)->Int->(List api_Expr)->Option (((List api_Token)×Int×(List api_Expr)) ⊕ (Ex parse_stop parse_parser api_Expr))
 |0,_,_,_,_=>none
 |n+1,depth,p5,p6,e3 =>
  (parse_parser_is (parse_parser.mk p5 p6) ⟨#[41]⟩).bind fun i1 =>
  bif (!i1) then
   ((bif (decide (0<(e3.length:Int))) then
    (parse_parser_need (parse_parser.mk p5 p6) ⟨#[44]⟩).bind fun y7=>match y7 with
    |.ok n_2 p17 =>
     some (.inl (p17.l,p17.forms))
    |.pan e11 p18=>some (.inr (.pan e11 p18))
   else
    some (.inl (p5,p6))
   ):Option (((List api_Token)×Int) ⊕ (Ex parse_stop parse_parser api_Expr))).bind fun y2=>match y2 with
   |.inl (p7,p8) =>
    bif ((e3.length:Int) == 40) then
     (parse_parser_deep (parse_parser.mk p7 p8) 0 true).bind fun y3=>match y3 with
     |.ok d p9 =>
      (parse_parser_fail p9 2).bind fun y4=>match y4 with
      |.ok f p11 =>
       (parse_parser_expr n p11 (IntKind.i64.wrap (depth+1))).bind fun y5=>match y5 with
       |.ok e7 p13 =>
        (some [e7]).bind fun l =>
        (gapp 65 e3 l).bind fun l1 =>
        parse_parser_atom_l1 n depth p13.l p13.forms l1
       |.pan e8 p14=>some (.inr (.pan e8 p14))
      |.pan e6 p12=>some (.inr (.pan e6 p12))
     |.pan e5 p10=>some (.inr (.pan e5 p10))
    else
     (parse_parser_expr n (parse_parser.mk p7 p8) (IntKind.i64.wrap (depth+1))).bind fun y6=>match y6 with
     |.ok e9 p15 =>
      (some [e9]).bind fun l2 =>
      (gapp 65 e3 l2).bind fun l3 =>
      parse_parser_atom_l1 n depth p15.l p15.forms l3
     |.pan e10 p16=>some (.inr (.pan e10 p16))
   |.inr o=>some (.inr o)
  else
   some (.inl (p5,p6,e3))
def parse_parser_atom:Nat->parse_parser->Int->Option (Ex parse_stop parse_parser api_Expr)
 |0,_,_=>none
 |n+1,p,depth =>
  (parse_parser_begins p).bind fun b =>
  ((bif (!b) then
   (parse_parser_fail p 5).bind fun y10=>match y10 with
   |.ok f1 p23 =>
    some (.inl (p23.l,p23.forms))
   |.pan e15 p24=>some (.inr (.pan e15 p24))
  else
   some (.inl (p.l,p.forms))
  ):Option (((List api_Token)×Int) ⊕ (Ex parse_stop parse_parser api_Expr))).bind fun y=>match y with
  |.inl (p1,p2) =>
   (parse_parser_next (parse_parser.mk p1 p2)).bind fun t =>
   bif (t.1.Kind == 2) then
    some (.ok (api_Expr.mk 1 t.1.N t.1.S [] t.1.At) t.2)
   else
    bif (t.1.Kind == 3) then
     some (.ok (api_Expr.mk 2 t.1.N t.1.S [] t.1.At) t.2)
    else
     bif (t.1.Kind == 1) then
      (parse_parser_is t.2 ⟨#[40]⟩).bind fun i =>
      bif (!i) then
       some (.ok (api_Expr.mk 3 t.1.N t.1.S [] t.1.At) t.2)
      else
       (parse_parser_next t.2).bind fun n_ =>
       ((parse_parser_atom_l1 n depth n_.2.l n_.2.forms []
       ):Option (((List api_Token)×Int×(List api_Expr)) ⊕ (Ex parse_stop parse_parser api_Expr))).bind fun y1=>match y1 with
       |.inl (p3,p4,e1) =>
        (parse_parser_next (parse_parser.mk p3 p4)).bind fun n_1 =>
        some (.ok (api_Expr.mk 4 t.1.N t.1.S e1 t.1.At) n_1.2)
       |.inr o=>some o
     else
      (parse_parser_expr n t.2 (IntKind.i64.wrap (depth+1))).bind fun y8=>match y8 with
      |.ok e12 p19 =>
       (parse_parser_need p19 ⟨#[41]⟩).bind fun y9=>match y9 with
       |.ok n_3 p21 =>
        some (.ok e12 p21)
       |.pan e14 p22=>some (.pan e14 p22)
      |.pan e13 p20=>some (.pan e13 p20)
  |.inr o=>some o
end
def parse_parser_arg (n:Nat)(p:parse_parser):Option (Ex parse_stop parse_parser api_Arg) :=
 (parse_parser_next p).bind fun t =>
 bif (t.1.Kind == 1) then
  some (.ok (api_Arg.mk 1 t.1.N t.1.S (api_Expr.mk 0 0 ⟨#[]⟩ [] 0) t.1.At) t.2)
 else
  bif (t.1.Kind == 2) then
   some (.ok (api_Arg.mk 2 t.1.N t.1.S (api_Expr.mk 0 0 ⟨#[]⟩ [] 0) t.1.At) t.2)
  else
   bif (t.1.Kind == 3) then
    some (.ok (api_Arg.mk 3 t.1.N t.1.S (api_Expr.mk 0 0 ⟨#[]⟩ [] 0) t.1.At) t.2)
   else
    bif (decide (t.1.S=⟨#[45]⟩)) then
     (parse_parser_number t.2).bind fun y=>match y with
     |.ok n_ p1 =>
      some (.ok (api_Arg.mk 2 (IntKind.i64.wrap (0-n_)) ⟨#[]⟩ (api_Expr.mk 0 0 ⟨#[]⟩ [] 0) t.1.At) p1)
     |.pan e p2=>some (.pan e p2)
    else
     bif (decide (t.1.S=⟨#[45,62]⟩)) then
      some (.ok (api_Arg.mk 4 t.1.N ⟨#[]⟩ (api_Expr.mk 0 0 ⟨#[]⟩ [] 0) t.1.At) t.2)
     else
      bif (decide (t.1.S=⟨#[40]⟩)) then
       (parse_parser_expr n t.2 1).bind fun y1=>match y1 with
       |.ok e1 p3 =>
        (parse_parser_need p3 ⟨#[41]⟩).bind fun y2=>match y2 with
        |.ok n_1 p5 =>
         some (.ok (api_Arg.mk 5 t.1.N ⟨#[]⟩ e1 t.1.At) p5)
        |.pan e3 p6=>some (.pan e3 p6)
       |.pan e2 p4=>some (.pan e2 p4)
      else
       some (.ok (api_Arg.mk 0 t.1.N ⟨#[]⟩ (api_Expr.mk 0 0 ⟨#[]⟩ [] 0) t.1.At) t.2)
mutual
def parse_parser_form_l1:Nat->Int->(List api_Token)->Int->(List api_Form)->Option (((List api_Token)×Int×(List api_Form)) ⊕ (Ex parse_stop parse_parser api_Form))
 |0,_,_,_,_=>none
 |n+1,depth,p9,p10,f2 =>
  (parse_parser_is (parse_parser.mk p9 p10) ⟨#[125]⟩).bind fun i =>
  bif (!i) then
   (parse_parser_form n (parse_parser.mk p9 p10) (IntKind.i64.wrap (depth+1))).bind fun y5=>match y5 with
   |.ok f3 p11 =>
    (some [f3]).bind fun l =>
    (gapp 73 f2 l).bind fun l1 =>
    parse_parser_form_l1 n depth p11.l p11.forms l1
   |.pan e5 p12=>some (.inr (.pan e5 p12))
  else
   some (.inl (p9,p10,f2))
def parse_parser_form_l2:Nat->(List api_Token)->Int->(List api_Arg)->Option (((List api_Token)×Int×(List api_Arg)) ⊕ (Ex parse_stop parse_parser api_Form))
 |0,_,_,_=>none
 |n+1,p13,p14,f4 =>
  (((parse_parser_is (parse_parser.mk p13 p14) ⟨#[59]⟩).bind fun i2 =>
  bif (!i2) then
   (parse_parser_is (parse_parser.mk p13 p14) ⟨#[123]⟩).bind fun i3 =>
   some (!i3)
  else
   some false
  ):Option Bool).bind fun v49 =>
   bif v49 then
    (((parse_parser_begins (parse_parser.mk p13 p14)).bind fun b =>
    bif (!b) then
     (parse_parser_is (parse_parser.mk p13 p14) ⟨#[45,62]⟩).bind fun i1 =>
     some (!i1)
    else
     some false
    ):Option Bool).bind fun v57 =>
     ((bif v57 then
      (parse_parser_fail (parse_parser.mk p13 p14) 5).bind fun y12=>match y12 with
      |.ok f6 p23 =>
       some (.inl (p23.l,p23.forms))
      |.pan e12 p24=>some (.inr (.pan e12 p24))
     else
      some (.inl (p13,p14))
     ):Option (((List api_Token)×Int) ⊕ (Ex parse_stop parse_parser api_Form))).bind fun y8=>match y8 with
     |.inl (p15,p16) =>
      bif ((f4.length:Int) == 40) then
       (parse_parser_fail (parse_parser.mk p15 p16) 2).bind fun y9=>match y9 with
       |.ok f5 p17 =>
        (parse_parser_arg n p17).bind fun y10=>match y10 with
        |.ok a_ p19 =>
         (some [a_]).bind fun l2 =>
         (gapp 105 f4 l2).bind fun l3 =>
         parse_parser_form_l2 n p19.l p19.forms l3
        |.pan e10 p20=>some (.inr (.pan e10 p20))
       |.pan e9 p18=>some (.inr (.pan e9 p18))
      else
       (parse_parser_arg n (parse_parser.mk p15 p16)).bind fun y11=>match y11 with
       |.ok a_1 p21 =>
        (some [a_1]).bind fun l4 =>
        (gapp 105 f4 l4).bind fun l5 =>
        parse_parser_form_l2 n p21.l p21.forms l5
       |.pan e11 p22=>some (.inr (.pan e11 p22))
     |.inr o=>some (.inr o)
   else
    some (.inl (p13,p14,f4))
def parse_parser_form:Nat->parse_parser->Int->Option (Ex parse_stop parse_parser api_Form)
 |0,_,_=>none
 |n+1,p,depth =>
  (gi p.l 0).bind fun x =>
  ((bif (x.Kind != 1) then
   (parse_parser_fail p 5).bind fun y14=>match y14 with
   |.ok f8 p27 =>
    some (.inl (p27.l,p27.forms))
   |.pan e14 p28=>some (.inr (.pan e14 p28))
  else
   some (.inl (p.l,p.forms))
  ):Option (((List api_Token)×Int) ⊕ (Ex parse_stop parse_parser api_Form))).bind fun y=>match y with
  |.inl (p1,p2) =>
   ((bif (decide (30<depth)) then
    some true
   else
    some (decide (2000<(IntKind.i64.wrap (p2+1))))
   ):Option Bool).bind fun v32 =>
    ((bif v32 then
     (parse_parser_fail (parse_parser.mk p1 (IntKind.i64.wrap (p2+1))) 2).bind fun y13=>match y13 with
     |.ok f7 p25 =>
      some (.inl (p25.l,p25.forms))
     |.pan e13 p26=>some (.inr (.pan e13 p26))
    else
     some (.inl (p1,(IntKind.i64.wrap (p2+1))))
    ):Option (((List api_Token)×Int) ⊕ (Ex parse_stop parse_parser api_Form))).bind fun y2=>match y2 with
    |.inl (p3,p4) =>
     (parse_parser_next (parse_parser.mk p3 p4)).bind fun t =>
     ((parse_parser_form_l2 n t.2.l t.2.forms []
     ):Option (((List api_Token)×Int×(List api_Arg)) ⊕ (Ex parse_stop parse_parser api_Form))).bind fun y3=>match y3 with
     |.inl (p5,p6,f) =>
      (parse_parser_next (parse_parser.mk p5 p6)).bind fun n_ =>
      bif (decide (n_.1.S=⟨#[59]⟩)) then
       some (.ok (api_Form.mk t.1.S f [] t.1.At) n_.2)
      else
       ((parse_parser_form_l1 n depth n_.2.l n_.2.forms []
       ):Option (((List api_Token)×Int×(List api_Form)) ⊕ (Ex parse_stop parse_parser api_Form))).bind fun y4=>match y4 with
       |.inl (p7,p8,f1) =>
        (parse_parser_next (parse_parser.mk p7 p8)).bind fun n_1 =>
        some (.ok (api_Form.mk t.1.S f f1 t.1.At) n_1.2)
       |.inr o=>some o
     |.inr o=>some o
    |.inr o=>some o
  |.inr o=>some o
end
mutual
def parse_SameExpr:Nat->api_Expr->api_Expr->Option Bool
 |0,_,_=>none
 |n+1,a_,b =>
  bif (a_.Op != b.Op) then
   some false
  else
   bif (a_.Op == 1) then
    some (a_.N == b.N)
   else
    ((bif (a_.Op == 2) then
     some (a_.Op == 2)
    else
     some (a_.Op == 3)
    ):Option Bool).bind fun v19 =>
     bif v19 then
      some (decide (a_.S=b.S))
     else
      bif (a_.Op == 4) then
       bif (!decide (a_.S=b.S)) then
        some false
       else
        (slices_EqualFunc_34_15 n a_.Kids b.Kids).bind fun e1 =>
        some e1
      else
       (slices_EqualFunc_34_15 n a_.Kids b.Kids).bind fun e2 =>
       some e2
def slices_EqualFunc_34_15_l1:Nat->(List api_Expr)->(List api_Expr)->Int->Option (Unit ⊕ Bool)
 |0,_,_,_=>none
 |n+1,s1,s2,v17 =>
  bif (decide (v17<(s1.length:Int))) then
   (gi s1 v17).bind fun x =>
   (gi s2 v17).bind fun x1 =>
   (parse_SameExpr n x x1).bind fun s =>
   bif (!s) then
    some (.inr false)
   else
    slices_EqualFunc_34_15_l1 n s1 s2 (IntKind.i64.wrap (v17+1))
  else
   some (.inl ())
def slices_EqualFunc_34_15:Nat->(List api_Expr)->(List api_Expr)->Option Bool
 |0,_,_=>none
 |n+1,s1,s2 =>
  bif ((s1.length:Int) != (s2.length:Int)) then
   some false
  else
   ((slices_EqualFunc_34_15_l1 n s1 s2 0
   ):Option (Unit ⊕ Bool)).bind fun y=>match y with
   |.inl _ =>
    some true
   |.inr o=>some o
end
def parse_sameArg (n:Nat)(a_:api_Arg)(b:api_Arg):Option Bool :=
 bif (a_.Kind != b.Kind) then
  some false
 else
  ((bif (a_.Kind == 1) then
   some (a_.Kind == 1)
  else
   some (a_.Kind == 3)
  ):Option Bool).bind fun v12 =>
   bif v12 then
    some (decide (a_.S=b.S))
   else
    bif (a_.Kind == 2) then
     some (a_.N == b.N)
    else
     bif (a_.Kind == 5) then
      (parse_SameExpr n a_.E b.E).bind fun s =>
      some s
     else
      some true
def slices_EqualFunc_40_41_l1:Nat->(List api_Arg)->(List api_Arg)->Int->Option (Unit ⊕ Bool)
 |0,_,_,_=>none
 |n+1,s1,s2,v17 =>
  bif (decide (v17<(s1.length:Int))) then
   (gi s1 v17).bind fun x =>
   (gi s2 v17).bind fun x1 =>
   (parse_sameArg n x x1).bind fun s =>
   bif (!s) then
    some (.inr false)
   else
    slices_EqualFunc_40_41_l1 n s1 s2 (IntKind.i64.wrap (v17+1))
  else
   some (.inl ())
def slices_EqualFunc_40_41 (n:Nat)(s1:(List api_Arg))(s2:(List api_Arg)):Option Bool :=
 bif ((s1.length:Int) != (s2.length:Int)) then
  some false
 else
  ((slices_EqualFunc_40_41_l1 n s1 s2 0
  ):Option (Unit ⊕ Bool)).bind fun y=>match y with
  |.inl _ =>
   some true
  |.inr o=>some o
mutual
def parse_Same:Nat->(List api_Form)->(List api_Form)->Option Bool
 |0,_,_=>none
 |n+1,a_,b =>
  (slices_EqualFunc_38_39 n a_ b).bind fun f =>
  some f
def slices_EqualFunc_38_39_l1:Nat->(List api_Form)->(List api_Form)->Int->Option (Unit ⊕ Bool)
 |0,_,_,_=>none
 |n+1,s1,s2,v17 =>
  bif (decide (v17<(s1.length:Int))) then
   (gi s1 v17).bind fun x =>
   (gi s2 v17).bind fun x1 =>
   (parse_Same_1 n x x1).bind fun s =>
   bif (!s) then
    some (.inr false)
   else
    slices_EqualFunc_38_39_l1 n s1 s2 (IntKind.i64.wrap (v17+1))
  else
   some (.inl ())
def slices_EqualFunc_38_39:Nat->(List api_Form)->(List api_Form)->Option Bool
 |0,_,_=>none
 |n+1,s1,s2 =>
  bif ((s1.length:Int) != (s2.length:Int)) then
   some false
  else
   ((slices_EqualFunc_38_39_l1 n s1 s2 0
   ):Option (Unit ⊕ Bool)).bind fun y=>match y with
   |.inl _ =>
    some true
   |.inr o=>some o
def parse_Same_1:Nat->api_Form->api_Form->Option Bool
 |0,_,_=>none
 |n+1,x,y =>
  ((bif (decide (x.Word=y.Word)) then
   (slices_EqualFunc_40_41 n x.Args y.Args).bind fun a_ =>
   bif a_ then
    (parse_Same n x.Body y.Body).bind fun s =>
    some s
   else
    some false
  else
   some false
  ):Option Bool).bind fun v4 =>
   some v4
end
def parse_printer_number (p:parse_printer)(n_:Int):Option (Unit×parse_printer) :=
 ((bif p.bad then
  some true
 else
  bif (decide (n_<0)) then
   some true
  else
   some (decide (999999999999999<n_))
 ):Option Bool).bind fun p1 =>
  (some [(api_Token.mk 2 0 ⟨#[]⟩ n_)]).bind fun l =>
  (gapp 41 p.l l).bind fun l1 =>
  some ((),(parse_printer.mk l1 p1))
def parse_printer_text_l1:Nat->ByteArray->Int->Bool->Option Bool
 |0,_,_,_=>none
 |n+1,s,v19,p3 =>
  bif (decide (v19<(s.size:Int))) then
   ((bif p3 then
    some true
   else
    (gb s v19).bind fun c =>
    bif (c != 10) then
     bif (decide (c<32)) then
      some true
     else
      some (decide (126<c))
    else
     some false
   ):Option Bool).bind fun p4 =>
    parse_printer_text_l1 n s (IntKind.i64.wrap (v19+1)) p4
  else
   some p3
def parse_printer_text (n:Nat)(p:parse_printer)(s:ByteArray):Option (Unit×parse_printer) :=
 ((bif p.bad then
  some true
 else
  some (decide (200<(s.size:Int)))
 ):Option Bool).bind fun p1 =>
  ((parse_printer_text_l1 n s 0 p1
  ):Option Bool).bind fun p2 =>
   (some [(api_Token.mk 3 0 s 0)]).bind fun l =>
   (gapp 41 p.l l).bind fun l1 =>
   some ((),(parse_printer.mk l1 p2))
def parse_printer_name_1 (c:Int):Option Bool :=
 ((bif (decide (97<=(bits .or .u8 c 32))) then
  bif (decide ((bits .or .u8 c 32)<=122)) then
   some true
  else
   some (c == 95)
 else
  some (c == 95)
 ):Option Bool).bind fun v2 =>
  some v2
def parse_printer_name_l1:Nat->ByteArray->Bool->Int->Option Bool
 |0,_,_,_=>none
 |n+1,s,ok2,v17 =>
  bif (decide (v17<(s.size:Int))) then
   ((bif ok2 then
    (gb s v17).bind fun c =>
    (parse_printer_name_1 c).bind fun n_ =>
    bif n_ then
     some true
    else
     bif (decide (0<v17)) then
      bif (decide (48<=c)) then
       some (decide (c<=57))
      else
       some false
     else
      some false
   else
    some false
   ):Option Bool).bind fun ok3 =>
    parse_printer_name_l1 n s ok3 (IntKind.i64.wrap (v17+1))
  else
   some ok2
def parse_printer_name (n:Nat)(p:parse_printer)(s:ByteArray):Option (Unit×parse_printer) :=
 ((bif (decide (0<(s.size:Int))) then
  some (decide ((s.size:Int)<=32))
 else
  some false
 ):Option Bool).bind fun ok =>
  ((parse_printer_name_l1 n s ok 0
  ):Option Bool).bind fun ok1 =>
   ((bif p.bad then
    some true
   else
    some (!ok1)
   ):Option Bool).bind fun p1 =>
    (some [(api_Token.mk 1 0 s 0)]).bind fun l =>
    (gapp 41 p.l l).bind fun l1 =>
    some ((),(parse_printer.mk l1 p1))
def parse_printer_signs_l1:Nat->(List ByteArray)->Int->(List api_Token)->Option (List api_Token)
 |0,_,_,_=>none
 |n+1,l,v8,p2 =>
  bif (decide (v8<(l.length:Int))) then
   (gi l v8).bind fun x =>
   (some [(api_Token.mk 4 0 x 0)]).bind fun l1 =>
   (gapp 41 p2 l1).bind fun l2 =>
   parse_printer_signs_l1 n l (IntKind.i64.wrap (v8+1)) l2
  else
   some p2
def parse_printer_signs (n:Nat)(p:parse_printer)(l:(List ByteArray)):Option (Unit×parse_printer) :=
 ((parse_printer_signs_l1 n l 0 p.l
 ):Option (List api_Token)).bind fun p1 =>
  some ((),(parse_printer.mk p1 p.bad))
def parse_level_l1:Nat->(List parse_binary)->api_Expr->Int->Option (Unit ⊕ Int)
 |0,_,_,_=>none
 |n+1,o_,e,v15 =>
  bif (decide (v15<(o_.length:Int))) then
   (gi o_ v15).bind fun x =>
   bif (x.op == e.Op) then
    some (.inr x.level)
   else
    parse_level_l1 n o_ e (IntKind.i64.wrap (v15+1))
  else
   some (.inl ())
def parse_level (n:Nat)(e:api_Expr):Option Int :=
 bif (e.Op == 20) then
  some 0
 else
  bif (e.Op == 5) then
   some 3
  else
   bif (e.Op == 6) then
    some 7
   else
    (parse_operators).bind fun o_ =>
    ((parse_level_l1 n o_ e 0
    ):Option (Unit ⊕ Int)).bind fun y=>match y with
    |.inl _ =>
     some 8
    |.inr o=>some o
def parse_printer_expr_1_s3 (p:(List api_Token))(p1:Bool)(e:Int)(e1:Int)(e2:ByteArray)(e3:(List api_Expr))(e4:Int)(b:parse_binary):Option Bool :=
 some (b.op == e)
def slices_IndexFunc_69_71_s4_l1:Nat->(List parse_binary)->(List api_Token)->Bool->Int->Int->ByteArray->(List api_Expr)->Int->Int->Option (Unit ⊕ Int)
 |0,_,_,_,_,_,_,_,_,_=>none
 |n+1,s,p,p1,e,e1,e2,e3,e4,v8 =>
  bif (decide (v8<(s.length:Int))) then
   (gi s v8).bind fun x =>
   (parse_printer_expr_1_s3 p p1 e e1 e2 e3 e4 x).bind fun e6 =>
   bif e6 then
    some (.inr v8)
   else
    slices_IndexFunc_69_71_s4_l1 n s p p1 e e1 e2 e3 e4 (IntKind.i64.wrap (v8+1))
  else
   some (.inl ())
def slices_IndexFunc_69_71_s4 (n:Nat)(p:(List api_Token))(p1:Bool)(e:Int)(e1:Int)(e2:ByteArray)(e3:(List api_Expr))(e4:Int)(s:(List parse_binary)):Option Int :=
 ((slices_IndexFunc_69_71_s4_l1 n s p p1 e e1 e2 e3 e4 0
 ):Option (Unit ⊕ Int)).bind fun y=>match y with
 |.inl _ =>
  some (-1)
 |.inr o=>some o
mutual
def parse_printer_expr_l1:Nat->api_Expr->(List ByteArray)->Int->(List api_Token)->Bool->Option ((List api_Token)×Bool)
 |0,_,_,_,_,_=>none
 |n+1,e,l,v89,p3,p4 =>
  bif (decide (v89<(e.Kids.length:Int))) then
   (gi e.Kids v89).bind fun x =>
   bif (decide (0<v89)) then
    (some [⟨#[44]⟩]).bind fun l2 =>
    (parse_printer_signs n (parse_printer.mk p3 p4) l2).bind fun s2 =>
    (parse_printer_operand n s2.2 x 0).bind fun o_ =>
    parse_printer_expr_l1 n e l (IntKind.i64.wrap (v89+1)) o_.2.l o_.2.bad
   else
    (parse_printer_operand n (parse_printer.mk p3 p4) x 0).bind fun o_1 =>
    parse_printer_expr_l1 n e l (IntKind.i64.wrap (v89+1)) o_1.2.l o_1.2.bad
  else
   some (p3,p4)
def parse_printer_expr:Nat->parse_printer->api_Expr->Option (Unit×parse_printer)
 |0,_,_=>none
 |n+1,p,e =>
  bif (e.Op == 1) then
   (parse_printer_number p e.N).bind fun n_ =>
   some ((),n_.2)
  else
   bif (e.Op == 2) then
    (parse_printer_text n p e.S).bind fun t =>
    some ((),t.2)
   else
    bif (e.Op == 3) then
     (parse_printer_name n p e.S).bind fun n_1 =>
     some ((),n_1.2)
    else
     bif (e.Op == 4) then
      (parse_printer_name n p e.S).bind fun n_2 =>
      (some [⟨#[40]⟩]).bind fun l =>
      (parse_printer_signs n n_2.2 l).bind fun s =>
      ((parse_printer_expr_l1 n e l 0 s.2.l s.2.bad
      ):Option ((List api_Token)×Bool)).bind fun y=>match y with
      |(p1,p2) =>
       (some [⟨#[41]⟩]).bind fun l1 =>
       (parse_printer_signs n (parse_printer.mk p1 p2) l1).bind fun s1 =>
       some ((),s1.2)
     else
      ((bif (e.Op == 5) then
       some (e.Op == 5)
      else
       bif (e.Op == 6) then
        some (e.Op == 6)
       else
        some (e.Op == 20)
      ):Option Bool).bind fun v106 =>
       bif v106 then
        bif ((e.Kids.length:Int) != ((glook [(5,1),(6,1),(20,3)] e.Op).1)) then
         some ((),(parse_printer.mk p.l true))
        else
         bif (e.Op == 5) then
          (some [⟨#[33]⟩]).bind fun l3 =>
          (parse_printer_signs n p l3).bind fun s3 =>
          (gi e.Kids 0).bind fun x1 =>
          (parse_printer_operand n s3.2 x1 3).bind fun o_2 =>
          some ((),o_2.2)
         else
          bif (e.Op == 6) then
           (some [⟨#[45]⟩]).bind fun l4 =>
           (parse_printer_signs n p l4).bind fun s4 =>
           (gi e.Kids 0).bind fun x2 =>
           (parse_printer_operand n s4.2 x2 7).bind fun o_3 =>
           some ((),o_3.2)
          else
           (gi e.Kids 0).bind fun x3 =>
           (parse_printer_operand n p x3 1).bind fun o_4 =>
           (some [⟨#[63]⟩]).bind fun l5 =>
           (parse_printer_signs n o_4.2 l5).bind fun s5 =>
           (gi e.Kids 1).bind fun x4 =>
           (parse_printer_operand n s5.2 x4 0).bind fun o_5 =>
           (some [⟨#[58]⟩]).bind fun l6 =>
           (parse_printer_signs n o_5.2 l6).bind fun s6 =>
           (gi e.Kids 2).bind fun x5 =>
           (parse_printer_operand n s6.2 x5 0).bind fun o_6 =>
           some ((),o_6.2)
       else
        (parse_operators).bind fun o_7 =>
        (slices_IndexFunc_69_71_s4 n p.l p.bad e.Op e.N e.S e.Kids e.At o_7).bind fun k =>
        ((bif (decide (k<0)) then
         some true
        else
         some ((e.Kids.length:Int) != 2)
        ):Option Bool).bind fun v24 =>
         bif v24 then
          some ((),(parse_printer.mk p.l true))
         else
          (parse_operators).bind fun o_8 =>
          (gi o_8 k).bind fun x6 =>
          ((bif (x6.level == 4) then
           some 5
          else
           some x6.level
          ):Option Int).bind fun left =>
           (gi e.Kids 0).bind fun x7 =>
           (parse_printer_operand n p x7 left).bind fun o_9 =>
           (some [x6.sign]).bind fun l7 =>
           (parse_printer_signs n o_9.2 l7).bind fun s7 =>
           (gi e.Kids 1).bind fun x8 =>
           (parse_printer_operand n s7.2 x8 (if (IntKind.i64.wrap (x6.level+1)) > left then (IntKind.i64.wrap (x6.level+1)) else left)).bind fun o_10 =>
           some ((),o_10.2)
def parse_printer_operand:Nat->parse_printer->api_Expr->Int->Option (Unit×parse_printer)
 |0,_,_,_=>none
 |n+1,p,e,need =>
  (parse_level n e).bind fun l =>
  bif (decide (need<=l)) then
   (parse_printer_expr n p e).bind fun e1 =>
   some ((),e1.2)
  else
   (some [⟨#[40]⟩]).bind fun l1 =>
   (parse_printer_signs n p l1).bind fun s =>
   (parse_printer_expr n s.2 e).bind fun e2 =>
   (some [⟨#[41]⟩]).bind fun l2 =>
   (parse_printer_signs n e2.2 l2).bind fun s1 =>
   some ((),s1.2)
end
def ref32_sign (l:(List api_Token))(k:Int)(s:ByteArray):Option Bool :=
 (((gi l k).bind fun x =>
 bif (x.Kind == 4) then
  some (decide (x.S=s))
 else
  some false
 ):Option Bool).bind fun v6 =>
  some v6
def ref32_begins (l:(List api_Token))(k:Int):Option Bool :=
 (ref32_sign l k ⟨#[40]⟩).bind fun open_ =>
 (ref32_sign l k ⟨#[45]⟩).bind fun minus =>
 (((gi l k).bind fun x =>
 bif (decide (1<=x.Kind)) then
  bif (decide (x.Kind<=3)) then
   some true
  else
   bif open_ then
    some true
   else
    some minus
 else
  bif open_ then
   some true
  else
   some minus
 ):Option Bool).bind fun v4 =>
  some v4
def ref32_first (l:(List api_Token))(k:Int)(depth:Int)(not_:Bool):Option Int :=
 (ref32_begins l k).bind fun can =>
 (ref32_sign l k ⟨#[33]⟩).bind fun bang =>
 ((bif (!can) then
  bif (!not_) then
   some true
  else
   some (!bang)
 else
  some false
 ):Option Bool).bind fun v26 =>
  bif v26 then
   some 5
  else
   bif (decide (30<depth)) then
    some 2
   else
    some 0
def ref32_level_l1:Nat->(List ByteArray)->(List api_Token)->Int->(List Int)->Int->Option (Unit ⊕ ref32_Level)
 |0,_,_,_,_,_=>none
 |n+1,l1,l,k,l2,i =>
  bif (decide (i<(l1.length:Int))) then
   (gi l1 i).bind fun x =>
   (ref32_sign l k x).bind fun is_ =>
   bif is_ then
    (gi l2 i).bind fun x1 =>
    some (.inr (ref32_Level.mk x1 (IntKind.i64.wrap (7+i))))
   else
    ref32_level_l1 n l1 l k l2 (IntKind.i64.wrap (i+1))
  else
   some (.inl ())
def ref32_level (n:Nat)(l:(List api_Token))(k:Int):Option ref32_Level :=
 (some [⟨#[42]⟩,⟨#[47]⟩,⟨#[37]⟩,⟨#[43]⟩,⟨#[45]⟩,⟨#[61,61]⟩,⟨#[33,61]⟩,⟨#[60]⟩,⟨#[60,61]⟩,⟨#[62]⟩,⟨#[62,61]⟩,⟨#[38,38]⟩,⟨#[124,124]⟩]).bind fun l1 =>
 (some [6,6,6,5,5,4,4,4,4,4,4,2,1]).bind fun l2 =>
 ((ref32_level_l1 n l1 l k l2 0
 ):Option (Unit ⊕ ref32_Level)).bind fun y=>match y with
 |.inl _ =>
  some (ref32_Level.mk 0 0)
 |.inr o=>some o
mutual
def ref32_expr:Nat->(List api_Token)->Int->Int->Option ref32_Got
 |0,_,_,_=>none
 |n+1,l,k,depth =>
  (ref32_first l k depth true).bind fun e =>
  bif (e != 0) then
   some (ref32_Got.mk (api_Expr.mk 0 0 ⟨#[]⟩ [] 0) k e)
  else
   (ref32_binary n l k 1 depth).bind fun c =>
   bif (c.E != 0) then
    some c
   else
    (ref32_sign l c.To ⟨#[63]⟩).bind fun ask =>
    bif (!ask) then
     some c
    else
     (ref32_expr n l (IntKind.i64.wrap (c.To+1)) (IntKind.i64.wrap (depth+1))).bind fun a_ =>
     bif (a_.E != 0) then
      some a_
     else
      (ref32_sign l a_.To ⟨#[58]⟩).bind fun colon =>
      bif (!colon) then
       some (ref32_Got.mk (api_Expr.mk 0 0 ⟨#[]⟩ [] 0) a_.To 5)
      else
       (ref32_expr n l (IntKind.i64.wrap (a_.To+1)) (IntKind.i64.wrap (depth+1))).bind fun b =>
       bif (b.E != 0) then
        some b
       else
        (some [c.X,a_.X,b.X]).bind fun l1 =>
        some (ref32_Got.mk (api_Expr.mk 20 0 ⟨#[]⟩ l1 c.X.At) b.To 0)
def ref32_binary_l1:Nat->(List api_Token)->Int->ref32_Got->Int->Int->Int->ByteArray->(List api_Expr)->Int->Int->Option ((Int×Int×ByteArray×(List api_Expr)×Int×Int) ⊕ ref32_Got)
 |0,_,_,_,_,_,_,_,_,_,_=>none
 |n+1,l,n_,x,depth,x7,x8,x9,x10,x11,x12 =>
  bif (x12 == 0) then
   (ref32_level n l x11).bind fun op =>
   bif (op.N != n_) then
    some (.inr (ref32_Got.mk (api_Expr.mk x7 x8 x9 x10 x.X.At) x11 x12))
   else
    (ref32_binary n l (IntKind.i64.wrap (x11+1)) (IntKind.i64.wrap (n_+1)) depth).bind fun y1 =>
    bif (y1.E != 0) then
     some (.inr y1)
    else
     (some [(api_Expr.mk x7 x8 x9 x10 x.X.At),y1.X]).bind fun l1 =>
     bif (n_ == 4) then
      some (.inr (ref32_Got.mk (api_Expr.mk op.Op 0 ⟨#[]⟩ l1 x.X.At) y1.To 0))
     else
      ref32_binary_l1 n l n_ x depth op.Op 0 ⟨#[]⟩ l1 y1.To 0
  else
   some (.inl (x7,x8,x9,x10,x11,x12))
def ref32_binary:Nat->(List api_Token)->Int->Int->Int->Option ref32_Got
 |0,_,_,_,_=>none
 |n+1,l,k,n_,depth =>
  bif (decide (6<n_)) then
   (ref32_minus n l k depth).bind fun m_ =>
   some m_
  else
   bif (n_ == 3) then
    (ref32_bang n l k depth).bind fun b =>
    some b
   else
    (ref32_binary n l k (IntKind.i64.wrap (n_+1)) depth).bind fun x =>
    ((ref32_binary_l1 n l n_ x depth x.X.Op x.X.N x.X.S x.X.Kids x.To x.E
    ):Option ((Int×Int×ByteArray×(List api_Expr)×Int×Int) ⊕ ref32_Got)).bind fun y=>match y with
    |.inl (x1,x2,x3,x4,x5,x6) =>
     some (ref32_Got.mk (api_Expr.mk x1 x2 x3 x4 x.X.At) x5 x6)
    |.inr o=>some o
def ref32_minus:Nat->(List api_Token)->Int->Int->Option ref32_Got
 |0,_,_,_=>none
 |n+1,l,k,depth =>
  (ref32_sign l k ⟨#[45]⟩).bind fun is_ =>
  bif (!is_) then
   (ref32_atom n l k depth).bind fun a_ =>
   some a_
  else
   (ref32_first l (IntKind.i64.wrap (k+1)) (IntKind.i64.wrap (depth+1)) false).bind fun e =>
   bif (e != 0) then
    some (ref32_Got.mk (api_Expr.mk 0 0 ⟨#[]⟩ [] 0) (IntKind.i64.wrap (k+1)) e)
   else
    (ref32_minus n l (IntKind.i64.wrap (k+1)) (IntKind.i64.wrap (depth+1))).bind fun x =>
    bif (x.E != 0) then
     some x
    else
     (gi l k).bind fun x1 =>
     (some [x.X]).bind fun l1 =>
     some (ref32_Got.mk (api_Expr.mk 6 0 ⟨#[]⟩ l1 x1.At) x.To 0)
def ref32_atom:Nat->(List api_Token)->Int->Int->Option ref32_Got
 |0,_,_,_=>none
 |n+1,l,k,depth =>
  (gi l k).bind fun x =>
  (ref32_sign l k ⟨#[40]⟩).bind fun open_ =>
  bif open_ then
   (ref32_expr n l (IntKind.i64.wrap (k+1)) (IntKind.i64.wrap (depth+1))).bind fun x1 =>
   bif (x1.E != 0) then
    some x1
   else
    (ref32_sign l x1.To ⟨#[41]⟩).bind fun shut =>
    bif (!shut) then
     some (ref32_Got.mk (api_Expr.mk 0 0 ⟨#[]⟩ [] 0) x1.To 5)
    else
     some (ref32_Got.mk x1.X (IntKind.i64.wrap (x1.To+1)) 0)
  else
   bif (x.Kind == 2) then
    some (ref32_Got.mk (api_Expr.mk 1 x.N ⟨#[]⟩ [] x.At) (IntKind.i64.wrap (k+1)) 0)
   else
    bif (x.Kind == 3) then
     some (ref32_Got.mk (api_Expr.mk 2 0 x.S [] x.At) (IntKind.i64.wrap (k+1)) 0)
    else
     bif (x.Kind != 1) then
      some (ref32_Got.mk (api_Expr.mk 0 0 ⟨#[]⟩ [] 0) k 5)
     else
      (ref32_sign l (IntKind.i64.wrap (k+1)) ⟨#[40]⟩).bind fun call =>
      bif (!call) then
       some (ref32_Got.mk (api_Expr.mk 3 0 x.S [] x.At) (IntKind.i64.wrap (k+1)) 0)
      else
       (ref32_args n l k depth).bind fun a_ =>
       some a_
def ref32_bang:Nat->(List api_Token)->Int->Int->Option ref32_Got
 |0,_,_,_=>none
 |n+1,l,k,depth =>
  (ref32_sign l k ⟨#[33]⟩).bind fun is_ =>
  bif (!is_) then
   (ref32_binary n l k 4 depth).bind fun b =>
   some b
  else
   (ref32_first l (IntKind.i64.wrap (k+1)) (IntKind.i64.wrap (depth+1)) true).bind fun e =>
   bif (e != 0) then
    some (ref32_Got.mk (api_Expr.mk 0 0 ⟨#[]⟩ [] 0) (IntKind.i64.wrap (k+1)) e)
   else
    (ref32_bang n l (IntKind.i64.wrap (k+1)) (IntKind.i64.wrap (depth+1))).bind fun x =>
    bif (x.E != 0) then
     some x
    else
     (gi l k).bind fun x1 =>
     (some [x.X]).bind fun l1 =>
     some (ref32_Got.mk (api_Expr.mk 5 0 ⟨#[]⟩ l1 x1.At) x.To 0)
def ref32_args_l1:Nat->(List api_Token)->Int->api_Token->Int->(List api_Expr)->Option ref32_Got
 |0,_,_,_,_,_=>none
 |n+1,l,depth,x,at_,out =>
  (ref32_first l at_ (IntKind.i64.wrap (depth+1)) true).bind fun e =>
  ((bif (e == 0) then
   bif ((out.length:Int) == 40) then
    some true
   else
    some (e == 2)
  else
   some (e == 2)
  ):Option Bool).bind fun v51 =>
   bif v51 then
    some (ref32_Got.mk (api_Expr.mk 0 0 ⟨#[]⟩ [] 0) at_ 2)
   else
    (ref32_expr n l at_ (IntKind.i64.wrap (depth+1))).bind fun x1 =>
    bif (x1.E != 0) then
     some x1
    else
     (some [x1.X]).bind fun l1 =>
     (gapp 65 out l1).bind fun l2 =>
     (ref32_sign l x1.To ⟨#[41]⟩).bind fun shut =>
     bif shut then
      some (ref32_Got.mk (api_Expr.mk 4 0 x.S l2 x.At) (IntKind.i64.wrap (x1.To+1)) 0)
     else
      (ref32_sign l x1.To ⟨#[44]⟩).bind fun comma =>
      bif (!comma) then
       some (ref32_Got.mk (api_Expr.mk 0 0 ⟨#[]⟩ [] 0) x1.To 5)
      else
       ref32_args_l1 n l depth x (IntKind.i64.wrap (x1.To+1)) l2
def ref32_args:Nat->(List api_Token)->Int->Int->Option ref32_Got
 |0,_,_,_=>none
 |n+1,l,k,depth =>
  (gi l k).bind fun x =>
  (ref32_sign l (IntKind.i64.wrap (k+2)) ⟨#[41]⟩).bind fun empty =>
  bif empty then
   some (ref32_Got.mk (api_Expr.mk 4 0 x.S [] x.At) (IntKind.i64.wrap ((IntKind.i64.wrap (k+2))+1)) 0)
  else
   ref32_args_l1 n l depth x (IntKind.i64.wrap (k+2)) []
end
def ref32_arg (n:Nat)(l:(List api_Token))(k:Int):Option ref32_Arg :=
 (gi l k).bind fun x =>
 ((bif (decide (1<=x.Kind)) then
  some (decide (x.Kind<=3))
 else
  some false
 ):Option Bool).bind fun v21 =>
  bif v21 then
   some (ref32_Arg.mk (api_Arg.mk x.Kind x.N x.S (api_Expr.mk 0 0 ⟨#[]⟩ [] 0) x.At) (IntKind.i64.wrap (k+1)) 0)
  else
   (ref32_sign l k ⟨#[45,62]⟩).bind fun arrow =>
   bif arrow then
    some (ref32_Arg.mk (api_Arg.mk 4 0 ⟨#[]⟩ (api_Expr.mk 0 0 ⟨#[]⟩ [] 0) x.At) (IntKind.i64.wrap (k+1)) 0)
   else
    (ref32_sign l k ⟨#[45]⟩).bind fun minus =>
    bif minus then
     (gi l (IntKind.i64.wrap (k+1))).bind fun x1 =>
     bif (x1.Kind != 2) then
      some (ref32_Arg.mk (api_Arg.mk 0 0 ⟨#[]⟩ (api_Expr.mk 0 0 ⟨#[]⟩ [] 0) 0) (IntKind.i64.wrap (k+1)) 5)
     else
      some (ref32_Arg.mk (api_Arg.mk 2 (IntKind.i64.wrap (0-x1.N)) ⟨#[]⟩ (api_Expr.mk 0 0 ⟨#[]⟩ [] 0) x.At) (IntKind.i64.wrap (k+2)) 0)
    else
     (ref32_expr n l (IntKind.i64.wrap (k+1)) 1).bind fun x2 =>
     bif (x2.E != 0) then
      some (ref32_Arg.mk (api_Arg.mk 0 0 ⟨#[]⟩ (api_Expr.mk 0 0 ⟨#[]⟩ [] 0) 0) x2.To x2.E)
     else
      (ref32_sign l x2.To ⟨#[41]⟩).bind fun shut =>
      bif (!shut) then
       some (ref32_Arg.mk (api_Arg.mk 0 0 ⟨#[]⟩ (api_Expr.mk 0 0 ⟨#[]⟩ [] 0) 0) x2.To 5)
      else
       some (ref32_Arg.mk (api_Arg.mk 5 0 ⟨#[]⟩ x2.X x.At) (IntKind.i64.wrap (x2.To+1)) 0)
mutual
def ref32_form_l1:Nat->(List api_Token)->api_Token->(List api_Arg)->Int->(List api_Form)->Int->Int->Option ref32_Part
 |0,_,_,_,_,_,_,_=>none
 |n+1,l,x,out,depth,out2,out3,out4 =>
  (ref32_sign l out3 ⟨#[125]⟩).bind fun shut =>
  bif shut then
   some (ref32_Part.mk (api_Form.mk x.S out out2 x.At) (IntKind.i64.wrap (out3+1)) out4 0)
  else
   (ref32_form n l out3 (IntKind.i64.wrap (depth+1)) out4).bind fun x1 =>
   bif (x1.E != 0) then
    some x1
   else
    (some [x1.F]).bind fun l1 =>
    (gapp 73 out2 l1).bind fun l2 =>
    ref32_form_l1 n l x out depth l2 x1.To x1.N
def ref32_form_l2:Nat->(List api_Token)->api_Token->Int->(List api_Arg)->Int->Option (((List api_Arg)×Int) ⊕ ref32_Part)
 |0,_,_,_,_,_=>none
 |n+1,l,x,n_,out5,out6 =>
  (ref32_sign l out6 ⟨#[59]⟩).bind fun semi =>
  bif semi then
   some (.inr (ref32_Part.mk (api_Form.mk x.S out5 [] x.At) (IntKind.i64.wrap (out6+1)) (IntKind.i64.wrap (n_+1)) 0))
  else
   (ref32_sign l out6 ⟨#[123]⟩).bind fun open_ =>
   bif open_ then
    some (.inl (out5,out6))
   else
    (ref32_begins l out6).bind fun can =>
    (ref32_sign l out6 ⟨#[45,62]⟩).bind fun arrow =>
    ((bif (!can) then
     some (!arrow)
    else
     some false
    ):Option Bool).bind fun v77 =>
     bif v77 then
      some (.inr (ref32_Part.mk (api_Form.mk ⟨#[]⟩ [] [] 0) out6 0 5))
     else
      bif ((out5.length:Int) == 40) then
       some (.inr (ref32_Part.mk (api_Form.mk ⟨#[]⟩ [] [] 0) out6 0 2))
      else
       (ref32_arg n l out6).bind fun a_ =>
       bif (a_.E != 0) then
        some (.inr (ref32_Part.mk (api_Form.mk ⟨#[]⟩ [] [] 0) a_.To 0 a_.E))
       else
        (some [a_.A]).bind fun l3 =>
        (gapp 105 out5 l3).bind fun l4 =>
        ref32_form_l2 n l x n_ l4 a_.To
def ref32_form:Nat->(List api_Token)->Int->Int->Int->Option ref32_Part
 |0,_,_,_,_=>none
 |n+1,l,k,depth,n_ =>
  (gi l k).bind fun x =>
  bif (x.Kind != 1) then
   some (ref32_Part.mk (api_Form.mk ⟨#[]⟩ [] [] 0) k 0 5)
  else
   ((bif (decide (30<depth)) then
    some true
   else
    some (decide (2000<=n_))
   ):Option Bool).bind fun v30 =>
    bif v30 then
     some (ref32_Part.mk (api_Form.mk ⟨#[]⟩ [] [] 0) k 0 2)
    else
     ((ref32_form_l2 n l x n_ [] (IntKind.i64.wrap (k+1))
     ):Option (((List api_Arg)×Int) ⊕ ref32_Part)).bind fun y1=>match y1 with
     |.inl (out,out1) =>
      ref32_form_l1 n l x out depth [] (IntKind.i64.wrap (out1+1)) (IntKind.i64.wrap (n_+1))
     |.inr o=>some o
end
mutual
def ref32_SameExpr_l1:Nat->api_Expr->api_Expr->Bool->Int->Option (Unit ⊕ Bool)
 |0,_,_,_,_=>none
 |n+1,a_,b,offsets,k =>
  bif (decide (k<(a_.Kids.length:Int))) then
   (gi a_.Kids k).bind fun x =>
   (gi b.Kids k).bind fun x1 =>
   (ref32_SameExpr n x x1 offsets).bind fun same =>
   bif (!same) then
    some (.inr false)
   else
    ref32_SameExpr_l1 n a_ b offsets (IntKind.i64.wrap (k+1))
  else
   some (.inl ())
def ref32_SameExpr:Nat->api_Expr->api_Expr->Bool->Option Bool
 |0,_,_,_=>none
 |n+1,a_,b,offsets =>
  ((bif (a_.Op != b.Op) then
   some true
  else
   bif (a_.Op == 1) then
    bif (a_.N != b.N) then
     some true
    else
     bif (decide (2<=a_.Op)) then
      bif (decide (a_.Op<=4)) then
       bif (!decide (a_.S=b.S)) then
        some true
       else
        bif offsets then
         some (a_.At != b.At)
        else
         some false
      else
       bif offsets then
        some (a_.At != b.At)
       else
        some false
     else
      bif offsets then
       some (a_.At != b.At)
      else
       some false
   else
    bif (decide (2<=a_.Op)) then
     bif (decide (a_.Op<=4)) then
      bif (!decide (a_.S=b.S)) then
       some true
      else
       bif offsets then
        some (a_.At != b.At)
       else
        some false
     else
      bif offsets then
       some (a_.At != b.At)
      else
       some false
    else
     bif offsets then
      some (a_.At != b.At)
     else
      some false
  ):Option Bool).bind fun v52 =>
   bif v52 then
    some false
   else
    ((bif (decide (1<=a_.Op)) then
     some (decide (a_.Op<=3))
    else
     some false
    ):Option Bool).bind fun v60 =>
     bif v60 then
      some true
     else
      bif ((a_.Kids.length:Int) != (b.Kids.length:Int)) then
       some false
      else
       ((ref32_SameExpr_l1 n a_ b offsets 0
       ):Option (Unit ⊕ Bool)).bind fun y2=>match y2 with
       |.inl _ =>
        some true
       |.inr o=>some o
end
def ref32_SameArg (n:Nat)(a_:api_Arg)(b:api_Arg)(offsets:Bool):Option Bool :=
 ((bif (a_.Kind != b.Kind) then
  some true
 else
  bif offsets then
   bif (a_.At != b.At) then
    some true
   else
    bif (a_.Kind == 1) then
     bif (!decide (a_.S=b.S)) then
      some true
     else
      bif (a_.Kind == 2) then
       some (a_.N != b.N)
      else
       some false
    else
     bif (a_.Kind == 3) then
      bif (!decide (a_.S=b.S)) then
       some true
      else
       bif (a_.Kind == 2) then
        some (a_.N != b.N)
       else
        some false
     else
      bif (a_.Kind == 2) then
       some (a_.N != b.N)
      else
       some false
  else
   bif (a_.Kind == 1) then
    bif (!decide (a_.S=b.S)) then
     some true
    else
     bif (a_.Kind == 2) then
      some (a_.N != b.N)
     else
      some false
   else
    bif (a_.Kind == 3) then
     bif (!decide (a_.S=b.S)) then
      some true
     else
      bif (a_.Kind == 2) then
       some (a_.N != b.N)
      else
       some false
    else
     bif (a_.Kind == 2) then
      some (a_.N != b.N)
     else
      some false
 ):Option Bool).bind fun v50 =>
  bif v50 then
   some false
  else
   ((bif (a_.Kind != 5) then
    some true
   else
    (ref32_SameExpr n a_.E b.E offsets).bind fun s =>
    some s
   ):Option Bool).bind fun v6 =>
    some v6
mutual
def ref32_Same_l2:Nat->(List api_Form)->Int->(List api_Form)->Bool->Int->Option (Unit ⊕ Bool)
 |0,_,_,_,_,_=>none
 |n+1,a_,k,b,offsets,i =>
  (gi a_ k).bind fun x2 =>
  bif (decide (i<(x2.Args.length:Int))) then
   (gi x2.Args i).bind fun x3 =>
   (gi b k).bind fun x4 =>
   (gi x4.Args i).bind fun x5 =>
   (ref32_SameArg n x3 x5 offsets).bind fun same1 =>
   bif (!same1) then
    some (.inr false)
   else
    ref32_Same_l2 n a_ k b offsets (IntKind.i64.wrap (i+1))
  else
   some (.inl ())
def ref32_Same_l1:Nat->(List api_Form)->(List api_Form)->Bool->Int->Option (Unit ⊕ Bool)
 |0,_,_,_,_=>none
 |n+1,a_,b,offsets,k =>
  bif (decide (k<(a_.length:Int))) then
   (((gi a_ k).bind fun x6 =>
   (gi b k).bind fun x7 =>
   bif (!decide (x6.Word=x7.Word)) then
    some true
   else
    bif offsets then
     bif (x6.At != x7.At) then
      some true
     else
      some ((x6.Args.length:Int) != (x7.Args.length:Int))
    else
     some ((x6.Args.length:Int) != (x7.Args.length:Int))
   ):Option Bool).bind fun v63 =>
    bif v63 then
     some (.inr false)
    else
     ((ref32_Same_l2 n a_ k b offsets 0
     ):Option (Unit ⊕ Bool)).bind fun y2=>match y2 with
     |.inl _ =>
      (gi a_ k).bind fun x =>
      (gi b k).bind fun x1 =>
      (ref32_Same n x.Body x1.Body offsets).bind fun same =>
      bif (!same) then
       some (.inr false)
      else
       ref32_Same_l1 n a_ b offsets (IntKind.i64.wrap (k+1))
     |.inr o=>some (.inr o)
  else
   some (.inl ())
def ref32_Same:Nat->(List api_Form)->(List api_Form)->Bool->Option Bool
 |0,_,_,_=>none
 |n+1,a_,b,offsets =>
  bif ((a_.length:Int) != (b.length:Int)) then
   some false
  else
   ((ref32_Same_l1 n a_ b offsets 0
   ):Option (Unit ⊕ Bool)).bind fun y=>match y with
   |.inl _ =>
    some true
   |.inr o=>some o
end
mutual
def law32_shiftedExpr_l1:Nat->api_Expr->Int->(List api_Expr)->Int->Option (List api_Expr)
 |0,_,_,_,_=>none
 |n+1,e,n_,kids1,k =>
  bif (decide (k<(e.Kids.length:Int))) then
   (gi e.Kids k).bind fun x =>
   (law32_shiftedExpr n x n_).bind fun s =>
   (some [s]).bind fun l =>
   (gapp 65 kids1 l).bind fun l1 =>
   law32_shiftedExpr_l1 n e n_ l1 (IntKind.i64.wrap (k+1))
  else
   some kids1
def law32_shiftedExpr:Nat->api_Expr->Int->Option api_Expr
 |0,_,_=>none
 |n+1,e,n_ =>
  bif (e.Op == 0) then
   some e
  else
   ((law32_shiftedExpr_l1 n e n_ [] 0
   ):Option (List api_Expr)).bind fun kids =>
    some (api_Expr.mk e.Op e.N e.S kids (IntKind.i64.wrap (e.At+n_)))
end
mutual
def law32_shifted_l2:Nat->api_Form->Int->Int->(List api_Arg)->Option (List api_Arg)
 |0,_,_,_,_=>none
 |n+1,x,n_,i,f1 =>
  bif (decide (i<(x.Args.length:Int))) then
   (gi x.Args i).bind fun x1 =>
   (law32_shiftedExpr n x1.E n_).bind fun s1 =>
   (some [(api_Arg.mk x1.Kind x1.N x1.S s1 (IntKind.i64.wrap (x1.At+n_)))]).bind fun l3 =>
   (gapp 105 f1 l3).bind fun l4 =>
   law32_shifted_l2 n x n_ (IntKind.i64.wrap (i+1)) l4
  else
   some f1
def law32_shifted_l1:Nat->(List api_Form)->Int->(List api_Form)->Int->Option (List api_Form)
 |0,_,_,_,_=>none
 |n+1,l,n_,out1,k =>
  bif (decide (k<(l.length:Int))) then
   (gi l k).bind fun x =>
   ((law32_shifted_l2 n x n_ 0 []
   ):Option (List api_Arg)).bind fun f =>
    (law32_shifted n x.Body n_).bind fun s =>
    (some [(api_Form.mk x.Word f s (IntKind.i64.wrap (x.At+n_)))]).bind fun l1 =>
    (gapp 73 out1 l1).bind fun l2 =>
    law32_shifted_l1 n l n_ l2 (IntKind.i64.wrap (k+1))
  else
   some out1
def law32_shifted:Nat->(List api_Form)->Int->Option (List api_Form)
 |0,_,_=>none
 |n+1,l,n_ =>
  ((law32_shifted_l1 n l n_ [] 0
  ):Option (List api_Form)).bind fun out =>
   some out
end
def law32_sanity_1 (s:ByteArray):Option api_Expr :=
 some (api_Expr.mk 3 0 s [] 0)
def law32_sanity_2 (op:Int)(a_:api_Expr)(b:api_Expr):Option api_Expr :=
 (some [a_,b]).bind fun l =>
 some (api_Expr.mk op 0 ⟨#[]⟩ l 0)
abbrev hT (l:List api_Token):PV:=hP l row_api_Token
abbrev oT (l:List api_Token):PV:=oP l row_api_Token
abbrev hX (l:List api_Expr):PV:=hP l row_api_Expr
abbrev oX (l:List api_Expr):PV:=oP l row_api_Expr
abbrev hF (l:List api_Form):PV:=hP l row_api_Form
abbrev oF (l:List api_Form):PV:=oP l row_api_Form
abbrev hA (l:List api_Arg):PV:=hP l row_api_Arg
abbrev oA (l:List api_Arg):PV:=oP l row_api_Arg
abbrev hS (l:List ByteArray):PV:=hP l row_string
abbrev oS (l:List ByteArray):PV:=oP l row_string
abbrev kT (x:api_Token):List PV:=[iP x.Kind,iP x.At,tP x.S,iP x.N]
abbrev kX (x:api_Expr):List PV:=[iP x.Op,iP x.N,tP x.S,hX x.Kids,iP x.At]
abbrev kF (x:api_Form):List PV:=[tP x.Word,hA x.Args,hF x.Body,iP x.At]
abbrev kA (x:api_Arg):List PV:=[iP x.Kind,iP x.N,tP x.S,iP x.E.Op,iP x.E.N,tP x.E.S,hX x.E.Kids,iP x.E.At,iP x.At]
abbrev kP (x:parse_parser):List PV:=[hT x.l,iP x.forms]
abbrev kR (x:parse_printer):List PV:=[oT x.l,bP x.bad]
abbrev pE (e:parse_stop):List PanicEntry:=[{ v:=.iface 95 (.agg #[(.int .i64 e.At),(.int .i64 e.E)]),recovered:=false }]
end Go.Sp
