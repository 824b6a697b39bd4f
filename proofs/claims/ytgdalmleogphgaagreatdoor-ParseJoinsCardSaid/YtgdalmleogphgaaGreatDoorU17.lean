/-
  Chapter 32 as plain functions, second part: what the lexer answers, then Forms, Expr, Print, and what the statements compute; no program. (Printed by lift.py, but for the lexer's.)
-/
import Derived.Lib.Join
import Derived.Lib.ItoaNum
import Derived.Test.YtgdalmleogphgaaGreatDoorU5
import Derived.Test.YtgdalmleogphgaaGreatDoorU16
namespace Go.Sp
open Go Go.Vl
set_option linter.unusedVariables false
structure api_Problem where
 At:Int
 E:Int
structure ref31_Read where
 L:(List api_Token)
 P:api_Problem
structure ref32_Read where
 L:(List api_Form)
 X:api_Expr
 P:api_Problem
def tkT (t:Lx.Tok):api_Token:=⟨(t.kind:Int),(t.at_:Int),⟨⟨t.s⟩⟩,(t.n:Int)⟩
def lexPlain (src:ByteArray):List api_Token×api_Problem :=
 if 65536<src.size then ([],⟨0,2⟩)
 else match Lx.tokens src.data.toList with
  |.ok ts=>(ts.map tkT,⟨0,0⟩)
  |.error (p,e)=>([],⟨(p:Int),(e:Int)⟩)
def lexTokens (src:ByteArray):Option (List api_Token×api_Problem):=some (lexPlain src)
def refTokens (src:ByteArray):Option ref31_Read:=some ⟨(lexPlain src).1,(lexPlain src).2⟩
def wordT (t:api_Token):List (List UInt8):=if t.Kind=1∨t.Kind=4 then [t.S.data.toList] else if t.Kind=2 then [Lib.itoa t.N] else if t.Kind=3 then [34::Lx.quoted t.S.data.toList++[34]] else []
def textT (l:List api_Token):ByteArray:=⟨⟨Lib.join (l.flatMap wordT) [32]⟩⟩
def textOk (l:List api_Token):Prop:=l.length<=1000000/\(∀ t∈l,-9223372036854775808<=t.N/\t.N<=9223372036854775807)/\(textT l).size<=140737488355328/\∀ t∈l,t.Kind≠3∨t.S.size<=1000000
instance (l:List api_Token):Decidable (textOk l):=by unfold textOk;exact inferInstance
def lexText (l:List api_Token):Option ByteArray:=if textOk l then some (textT l) else none
def parse_Forms_1_s5_l1:Nat->(List api_Form)->(List api_Token)->Int->Option (((List api_Form)×(List api_Token)×Int) ⊕ (Ex parse_stop ((List api_Form)×(List api_Token)×Int) Unit))
 |0,_,_,_=>none
 |n+1,out2,q6,q7 =>
  (gi q6 0).bind fun x =>
  bif (x.Kind != 5) then
   (parse_parser_form n (parse_parser.mk q6 q7) 1).bind fun y1=>match y1 with
   |.ok f s =>
    (gapp 73 out2 [f]).bind fun out3 =>
    parse_Forms_1_s5_l1 n out3 s.l s.forms
   |.pan e1 s1=>some (.inr (.pan e1 (out2,s1.l,s1.forms)))
  else
   some (.inl (out2,q6,q7))
def parse_Forms_1_s5 (n:Nat)(q:Int)(q1:Int)(out:(List api_Form))(bad:Int)(bad1:Int)(q2:(List api_Token))(q3:Int):Option (Ex parse_stop ((List api_Form)×(List api_Token)×Int) Unit) :=
 ((parse_Forms_1_s5_l1 n out q2 q3
 ):Option (((List api_Form)×(List api_Token)×Int) ⊕ (Ex parse_stop ((List api_Form)×(List api_Token)×Int) Unit))).bind fun y=>match y with
 |.inl (out1,q4,q5) =>
  some (.ok () (out1,q4,q5))
 |.inr o=>some o
def parse_run_25_s6 (n:Nat)(q:Int)(q1:Int)(out:(List api_Form))(src:ByteArray):Option (api_Problem×(List api_Form)) :=
 (lexTokens src).bind fun t =>
 bif (t.2.E != 0) then
  some (t.2,out)
 else
  (parse_Forms_1_s5 n q q1 out t.2.At t.2.E t.1 0).bind fun y=>match y with
  |.ok f c =>
   (gi c.2.1 0).bind fun x =>
   bif (x.Kind != 5) then
    (parse_parser_fail (parse_parser.mk c.2.1 c.2.2) 5).bind fun y1=>match y1 with
    |.ok f1 s =>
     some ((api_Problem.mk 0 0),c.1)
    |.pan e1 s1=>some ((api_Problem.mk e1.At e1.E),c.1)
   else
    some ((api_Problem.mk 0 0),c.1)
  |.pan e c1=>some ((api_Problem.mk e.At e.E),c1.1)
def parse_Forms (n:Nat)(src:ByteArray):Option ((List api_Form)×api_Problem) :=
 (parse_run_25_s6 n 0 0 [] src).bind fun bad =>
 bif (bad.1.E != 0) then
  some ([],bad.1)
 else
  some (bad.2,bad.1)
def parse_Expr_1_s7 (n:Nat)(q:Int)(q1:Int)(q2:ByteArray)(q3:(List api_Expr))(q4:Int)(q5:Int)(q6:Int)(out:Int)(out1:Int)(out2:ByteArray)(out3:(List api_Expr))(out4:Int)(bad:Int)(bad1:Int)(q7:(List api_Token))(q8:Int):Option (Ex parse_stop (Int×Int×ByteArray×(List api_Expr)×Int×(List api_Token)×Int) Unit) :=
 (parse_parser_expr n (parse_parser.mk q7 q8) 1).bind fun y=>match y with
 |.ok e s =>
  some (.ok () (e.Op,e.N,e.S,e.Kids,e.At,s.l,s.forms))
 |.pan e1 s1=>some (.pan e1 (out,out1,out2,out3,out4,s1.l,s1.forms))
def parse_run_27_s8 (n:Nat)(q:Int)(q1:Int)(q2:ByteArray)(q3:(List api_Expr))(q4:Int)(q5:Int)(q6:Int)(out:Int)(out1:Int)(out2:ByteArray)(out3:(List api_Expr))(out4:Int)(src:ByteArray):Option (api_Problem×Int×Int×ByteArray×(List api_Expr)×Int) :=
 (lexTokens src).bind fun t =>
 bif (t.2.E != 0) then
  some (t.2,out,out1,out2,out3,out4)
 else
  (parse_Expr_1_s7 n q q1 q2 q3 q4 q5 q6 out out1 out2 out3 out4 t.2.At t.2.E t.1 0).bind fun y=>match y with
  |.ok e c =>
   (gi c.2.2.2.2.2.1 0).bind fun x =>
   bif (x.Kind != 5) then
    (parse_parser_fail (parse_parser.mk c.2.2.2.2.2.1 c.2.2.2.2.2.2) 5).bind fun y1=>match y1 with
    |.ok f s =>
     some ((api_Problem.mk 0 0),c.1,c.2.1,c.2.2.1,c.2.2.2.1,c.2.2.2.2.1)
    |.pan e2 s1=>some ((api_Problem.mk e2.At e2.E),c.1,c.2.1,c.2.2.1,c.2.2.2.1,c.2.2.2.2.1)
   else
    some ((api_Problem.mk 0 0),c.1,c.2.1,c.2.2.1,c.2.2.2.1,c.2.2.2.2.1)
  |.pan e1 c1=>some ((api_Problem.mk e1.At e1.E),c1.1,c1.2.1,c1.2.2.1,c1.2.2.2.1,c1.2.2.2.2.1)
def parse_Expr (n:Nat)(src:ByteArray):Option (api_Expr×api_Problem) :=
 (parse_run_27_s8 n 0 0 ⟨#[]⟩ [] 0 0 0 0 0 ⟨#[]⟩ [] 0 src).bind fun bad =>
 bif (bad.1.E != 0) then
  some ((api_Expr.mk 0 0 ⟨#[]⟩ [] 0),bad.1)
 else
  some ((api_Expr.mk bad.2.1 bad.2.2.1 bad.2.2.2.1 bad.2.2.2.2.1 bad.2.2.2.2.2),bad.1)
def ref32_Forms_l1:Nat->ref31_Read->(List api_Form)->Int->Int->Option ((List api_Form) ⊕ ref32_Read)
 |0,_,_,_,_=>none
 |n+1,t,out1,k,n_ =>
  (gi t.L k).bind fun x =>
  bif (x.Kind != 5) then
   (ref32_form n t.L k 1 n_).bind fun x1 =>
   bif (x1.E != 0) then
    (gi t.L x1.To).bind fun x2 =>
    some (.inr (ref32_Read.mk [] (api_Expr.mk 0 0 ⟨#[]⟩ [] 0) (api_Problem.mk x2.At x1.E)))
   else
    (some [x1.F]).bind fun l =>
    (gapp 73 out1 l).bind fun l1 =>
    ref32_Forms_l1 n t l1 x1.To x1.N
  else
   some (.inl out1)
def ref32_Forms (n:Nat)(src:ByteArray):Option ref32_Read :=
 (refTokens src).bind fun t =>
 bif (t.P.E != 0) then
  some (ref32_Read.mk [] (api_Expr.mk 0 0 ⟨#[]⟩ [] 0) t.P)
 else
  ((ref32_Forms_l1 n t [] 0 0
  ):Option ((List api_Form) ⊕ ref32_Read)).bind fun y=>match y with
  |.inl out =>
   some (ref32_Read.mk out (api_Expr.mk 0 0 ⟨#[]⟩ [] 0) (api_Problem.mk 0 0))
  |.inr o=>some o
def parse_PrintExpr (n:Nat)(e:api_Expr):Option (ByteArray×Int) :=
 (parse_printer_expr n (parse_printer.mk [] false) (api_Expr.mk e.Op e.N e.S e.Kids e.At)).bind fun e1 =>
 bif e1.2.bad then
  some (⟨#[]⟩,1)
 else
  (lexText e1.2.l).bind fun s =>
  (parse_Expr n s).bind fun e2 =>
  bif (e2.2.E != 0) then
   some (⟨#[]⟩,2)
  else
   some (s,0)
def law32_sanity (n:Nat):Option Bool :=
 (parse_Forms n ⟨#[108,105,102,116,32,108,49,32,45,53,32,34,97,34,32,45,62,32,40,120,32,43,32,49,41,32,123,32,100,111,103,59,32,125]⟩).bind fun f =>
 ((bif (!((f.2.At == 0)&&((f.2.E == 0)&&true))) then
  some true
 else
  bif ((f.1.length:Int) != 1) then
   some true
  else
   (gi f.1 0).bind fun x =>
   bif (!decide (x.Word=⟨#[108,105,102,116]⟩)) then
    some true
   else
    bif ((x.Args.length:Int) != 5) then
     some true
    else
     bif ((x.Body.length:Int) != 1) then
      some true
     else
      (gi x.Args 1).bind fun x1 =>
      bif (x1.N != (-5)) then
       some true
      else
       (gi x.Args 3).bind fun x2 =>
       bif (x2.Kind != 4) then
        some true
       else
        (gi x.Args 4).bind fun x3 =>
        some (x3.E.Op != 10)
 ):Option Bool).bind fun v90 =>
  bif v90 then
   some false
  else
   (law32_sanity_1 ⟨#[97]⟩).bind fun a_ =>
   (law32_sanity_1 ⟨#[98]⟩).bind fun b =>
   (law32_sanity_1 ⟨#[99]⟩).bind fun c =>
   (parse_Expr n ⟨#[97,32,45,32,98,32,45,32,99,32,42,32,45,100]⟩).bind fun e1 =>
   (parse_Expr n ⟨#[33,97,32,61,61,32,98,32,63,32,102,40,49,44,32,50,41,32,58,32,40,97,32,60,32,98,41,32,61,61,32,99]⟩).bind fun e2 =>
   (law32_sanity_1 ⟨#[100]⟩).bind fun s =>
   (some [s]).bind fun l =>
   (law32_sanity_2 12 a_ b).bind fun s1 =>
   (some [s1]).bind fun l1 =>
   (some [(api_Expr.mk 1 1 ⟨#[]⟩ [] 0),(api_Expr.mk 1 2 ⟨#[]⟩ [] 0)]).bind fun l2 =>
   ((bif (!((e1.2.At == 0)&&((e1.2.E == 0)&&true))) then
    some true
   else
    bif (!((e2.2.At == 0)&&((e2.2.E == 0)&&true))) then
     some true
    else
     (law32_sanity_2 11 a_ b).bind fun s4 =>
     (law32_sanity_2 7 c (api_Expr.mk 6 0 ⟨#[]⟩ l 0)).bind fun s5 =>
     (law32_sanity_2 11 s4 s5).bind fun s6 =>
     (parse_SameExpr n e1.1 s6).bind fun s7 =>
     bif (!s7) then
      some true
     else
      (law32_sanity_2 14 a_ b).bind fun s8 =>
      (law32_sanity_2 12 s8 c).bind fun s9 =>
      (some [(api_Expr.mk 5 0 ⟨#[]⟩ l1 0),(api_Expr.mk 4 0 ⟨#[102]⟩ l2 0),s9]).bind fun l3 =>
      (parse_SameExpr n e2.1 (api_Expr.mk 20 0 ⟨#[]⟩ l3 0)).bind fun s10 =>
      some (!s10)
   ):Option Bool).bind fun v157 =>
    bif v157 then
     some false
    else
     (parse_PrintExpr n e2.1).bind fun p =>
     (parse_Expr n ⟨#[97,32,60,32,98,32,60,32,99]⟩).bind fun e4 =>
     (parse_Expr n ⟨#[97,32,98]⟩).bind fun e5 =>
     (parse_Expr n ⟨#[120,32,40]⟩).bind fun e6 =>
     (parse_Forms n ⟨#[120,32,45,32,121,59]⟩).bind fun f1 =>
     ((bif (p.2 == 0) then
      bif (decide (p.1=⟨#[33,32,97,32,61,61,32,98,32,63,32,102,32,40,32,49,32,44,32,50,32,41,32,58,32,40,32,97,32,60,32,98,32,41,32,61,61,32,99]⟩)) then
       bif ((e4.2.At == 6)&&((e4.2.E == 5)&&true)) then
        bif ((e5.2.At == 2)&&((e5.2.E == 5)&&true)) then
         bif ((e6.2.At == 3)&&((e6.2.E == 5)&&true)) then
          bif ((f1.2.At == 4)&&((f1.2.E == 5)&&true)) then
           (parse_Same n f.1 f.1).bind fun s2 =>
           bif s2 then
            (parse_SameExpr n a_ b).bind fun s3 =>
            some (!s3)
           else
            some false
          else
           some false
         else
          some false
        else
         some false
       else
        some false
      else
       some false
     else
      some false
     ):Option Bool).bind fun v0_ =>
      some v0_
def saneT:Option Bool:=law32_sanity 60
end Go.Sp
