/-
  The walks of chapter 33: printer: the program computes the plain functions. (Printed by lift.py.) The lexers as plain functions; no program. (Printed by lift.py, but for the library.) The contracts of strconv.Itoa and strings.Join, laid at this program (written by the kit's own tools, in plain words). Library functions that the lexer calls, in the form that lifted walks use. The walks of the lexer: the program computes the plain functions. (Printed by lift.py.) The lifted lexer reads as the plain one. What the lexer's functions answer, in the form that lifted walks use: Tokens, the reference's Tokens, Text.
-/
import Derived.Shelf.Strconv.AtoiAll
import Derived.Shelf.Strings.Fields
import Derived.Shelf.Strings.Prefix
import Derived.Shelf.Strings.OnBuilder
import Derived.Shelf.Strings.Builder2Cap
import Derived.Shelf.LaysM
import Derived.Shelf.Strconv.Itoa3
import Derived.Test.YtkcfmlfkfagejaaGreatDoorProg
import Derived.Test.YtkcfmlfkfagejaaGreatDoorU7
import Derived.Test.YtkcfmlfkfagejaaGreatDoorU10
import Derived.Test.YtkcfmlfkfagejaaGreatDoorU12
import Derived.Test.YtkcfmlfkfagejaaGreatDoorU14
import Derived.Test.YtkcfmlfkfagejaaGreatDoorU16
import Derived.Test.YtkcfmlfkfagejaaGreatDoorU24
import Derived.Test.YtkcfmlfkfagejaaGreatDoorU25
import Derived.Test.YtkcfmlfkfagejaaGreatDoorU30
set_option linter.unusedVariables false
set_option linter.unusedSimpArgs false
namespace Go.Proofs.YtkcfmlfkfagejaaGreatDoor
open Go.RowKit Go.Q Go.Vl Go.Sp
set_option maxRecDepth 100000
set_option linter.unusedSimpArgs false
set_option maxHeartbeats 4000000
set_option linter.unusedVariables false
abbrev QC:List PV:=[.mp [((.int .i64 5),(.int .i64 1)),((.int .i64 6),(.int .i64 1)),((.int .i64 20),(.int .i64 3))]]
theorem Fg (p:Aj)(n_:Int)(r:(Unit×Aj))(h:Cq p n_=some r):CV Tryz.prog 109 [iP n_] [oT p.l,bP p.bad] (.ret (.tup [])) [oT r.2.l,bP r.2.bad]:=by
 unfold Cq at h
 refine vM ⟨[0,1],[]⟩ Tryz.func109 follows fun Q hQ=>?_
 refine mE 0 [] h (fun p1=>⟨[(0,.ptr 0 0),(1,iP n_)],[[oT p.l,bP p1]]⟩) ?_ fun y e hJ=>?_
 rintro p1 h
 obtain⟨l,hl,h⟩:=Ad h
 obtain⟨l1,hl1,h⟩:=Ad h
 cases h
 exact rt 1 [(7,fB Bh hl),(0,fa Bh hl1)] hQ
 rcases An e with⟨hc,e⟩|⟨hc,e⟩
 exact mJ 1 [(5,fo hc)] (hJ _ (oj e))
 rcases An e with⟨hc1,e⟩|⟨hc1,e⟩
 exact mJ 1 [(5,fo hc),(3,fo hc1)] (hJ _ (oj e))
 exact mJ 1 [(5,fo hc),(3,fo hc1)] (hJ _ (oj e))
theorem Ie (n:Nat)(p:Aj)(s:Â)(r:(Unit×Aj))(h:Dc n p s=some r):CV Tryz.prog 110 [tP s] [oT p.l,bP p.bad] (.ret (.tup [])) [oT r.2.l,bP r.2.bad]:=by
 unfold Dc at h
 refine vM ⟨[0,1,4,18,19,20],[]⟩ Tryz.func110 follows fun Q hQ=>?_
 refine mE 0 [] h (fun p1=>⟨[(0,.ptr 0 0),(1,tP s)],[[oT p.l,bP p1]]⟩) ?_ fun y e hJ=>?_
 rintro p1 h
 refine mE 1 [] h (fun p2=>⟨[(0,.ptr 0 0),(1,tP s)],[[oT p.l,bP p2]]⟩) ?_ fun y1 e1 hJ1=>?_
 rintro p2 h
 obtain⟨l,hl,h⟩:=Ad h
 obtain⟨l1,hl1,h⟩:=Ad h
 cases h
 exact rt 1 [(7,fB Bh hl),(0,fa Bh hl1)] hQ
 refine lF 1 [] (A:=(Int×Bool)) (fun n (v19,p3)=>Cc n s v19 p3) (fun (v19,p3)=>⟨[(0,.ptr 0 0),(1,tP s),(18,iP (s.size:Int)),(19,iP v19)],[[oT p.l,bP p3]]⟩) (0,p1) e1 (fun _=>rfl) ?_
 rintro n ⟨v19,p3⟩ e1 ih
 replace e1:=(Cc.eq_2 ..).symm.trans e1
 refine cD 1 [] e1 (fun hc4 e1=>?_) fun hc4 e1=>?_
 refine mE 2 [] e1 (fun p4=>⟨[(0,.ptr 0 0),(1,tP s),(18,iP (s.size:Int)),(19,iP v19)],[[oT p.l,bP p4]]⟩) ?_ fun y2 e2 hJ2=>?_
 rintro p4 e1
 exact mJ 1 [] (ih (_,_) e1)
 rcases An e2 with⟨hc,e2⟩|⟨hc,e2⟩
 exact mJ 1 [(5,fo hc)] (hJ2 _ (oj e2))
 obtain⟨c,hc1,e2⟩:=Ad e2
 rcases An e2 with⟨hc2,e2⟩|⟨hc2,e2⟩
 rcases An e2 with⟨hc3,e2⟩|⟨hc3,e2⟩
 exact mJ 1 [(5,fo hc),(2,fb hc1),(1,fo hc2),(2,fb hc1),(1,fo hc3)] (hJ2 _ (oj e2))
 exact mJ 1 [(5,fo hc),(2,fb hc1),(1,fo hc2),(2,fb hc1),(1,fo hc3),(2,fb hc1)] (hJ2 _ (oj e2))
 exact mJ 1 [(5,fo hc),(2,fb hc1),(1,fo hc2)] (hJ2 _ (oj e2))
 exact mJ 1 [] (hJ1 _ (oj e1))
 rcases An e with⟨hc5,e⟩|⟨hc5,e⟩
 exact mJ 1 [(5,fo hc5)] (hJ _ (oj e))
 exact mJ 1 [(5,fo hc5)] (hJ _ (oj e))
theorem DQ (c:Int)(r:Bool)(h:Cr c=some r):CZ Tryz.prog 132 [uP c] (bP r):=by
 unfold Cr at h
 refine vP ⟨[0,2],[]⟩ Tryz.func132 follows fun Q hQ=>?_
 refine mE 1 [] h (fun v2=>⟨[(2,bP v2)],[]⟩) ?_ fun y e hJ=>?_
 rintro v2 h
 cases h
 exact rt 0 [] hQ
 rcases An e with⟨hc,e⟩|⟨hc,e⟩
 rcases An e with⟨hc1,e⟩|⟨hc1,e⟩
 exact mJ 1 [(3,fo hc),(4,fo hc1)] (hJ _ (oj e))
 exact mJ 1 [(3,fo hc),(4,fo hc1)] (hJ _ (oj e))
 exact mJ 1 [(3,fo hc)] (hJ _ (oj e))
theorem E5 (n:Nat)(p:Aj)(s:Â)(r:(Unit×Aj))(h:Cs n p s=some r):CV Tryz.prog 107 [tP s] [oT p.l,bP p.bad] (.ret (.tup [])) [oT r.2.l,bP r.2.bad]:=by
 unfold Cs at h
 refine vM ⟨[0,1,4,5,6,16,17,18],[]⟩ Tryz.func107 follows fun Q hQ=>?_
 refine mE 1 [] h (fun ok=>⟨[(0,.ptr 0 0),(1,tP s),(4,.fno true 132 []),(5,bP ok)],[[oT p.l,bP p.bad]]⟩) ?_ fun y e hJ=>?_
 rintro ok h
 refine mE 1 [] h (fun ok1=>⟨[(0,.ptr 0 0),(1,tP s),(5,bP ok1)],[[oT p.l,bP p.bad]]⟩) ?_ fun y1 e1 hJ1=>?_
 rintro ok1 h
 refine mE 0 [] h (fun p1=>⟨[(0,.ptr 0 0),(1,tP s)],[[oT p.l,bP p1]]⟩) ?_ fun y2 e2 hJ2=>?_
 rintro p1 h
 obtain⟨l,hl,h⟩:=Ad h
 obtain⟨l1,hl1,h⟩:=Ad h
 cases h
 exact rt 1 [(7,fB Bh hl),(0,fa Bh hl1)] hQ
 rcases An e2 with⟨hc,e2⟩|⟨hc,e2⟩
 exact mJ 1 [(5,fo hc)] (hJ2 _ (oj e2))
 exact mJ 1 [(5,fo hc)] (hJ2 _ (oj e2))
 refine lF 1 [] (A:=(Bool×Int)) (fun n (ok2,v17)=>B0 n s ok2 v17) (fun (ok2,v17)=>⟨[(0,.ptr 0 0),(1,tP s),(4,.fno true 132 []),(5,bP ok2),(16,iP (s.size:Int)),(17,iP v17)],[[oT p.l,bP p.bad]]⟩) (ok,0) e1 (fun _=>rfl) ?_
 rintro n ⟨ok2,v17⟩ e1 ih
 replace e1:=(B0.eq_2 ..).symm.trans e1
 refine cD 1 [] e1 (fun hc6 e1=>?_) fun hc6 e1=>?_
 refine mE 2 [] e1 (fun ok3=>⟨[(0,.ptr 0 0),(1,tP s),(4,.fno true 132 []),(5,bP ok3),(16,iP (s.size:Int)),(17,iP v17)],[[oT p.l,bP p.bad]]⟩) ?_ fun y3 e3 hJ3=>?_
 rintro ok3 e1
 exact mJ 1 [] (ih (_,_) e1)
 rcases An e3 with⟨hc1,e3⟩|⟨hc1,e3⟩
 obtain⟨c,hc2,e3⟩:=Ad e3
 obtain⟨n_,hn_,e3⟩:=Ad e3
 rcases An e3 with⟨hc3,e3⟩|⟨hc3,e3⟩
 exact mJ 1 [(1,fo hc1),(3,fb hc2),(0,fk (DQ _ _ hn_)),(0,fo hc3)] (hJ3 _ (oj e3))
 rcases An e3 with⟨hc4,e3⟩|⟨hc4,e3⟩
 rcases An e3 with⟨hc5,e3⟩|⟨hc5,e3⟩
 exact mJ 1 [(1,fo hc1),(3,fb hc2),(0,fk (DQ _ _ hn_)),(0,fo hc3),(2,fo hc4),(2,fb hc2),(2,fo hc5),(2,fb hc2)] (hJ3 _ (oj e3))
 exact mJ 1 [(1,fo hc1),(3,fb hc2),(0,fk (DQ _ _ hn_)),(0,fo hc3),(2,fo hc4),(2,fb hc2),(2,fo hc5)] (hJ3 _ (oj e3))
 exact mJ 1 [(1,fo hc1),(3,fb hc2),(0,fk (DQ _ _ hn_)),(0,fo hc3),(2,fo hc4)] (hJ3 _ (oj e3))
 exact mJ 1 [(1,fo hc1)] (hJ3 _ (oj e3))
 exact mJ 1 [] (hJ1 _ (oj e1))
 rcases An e with⟨hc7,e⟩|⟨hc7,e⟩
 exact mJ 1 [(3,fo hc7)] (hJ _ (oj e))
 exact mJ 1 [(3,fo hc7)] (hJ _ (oj e))
theorem AA (n:Nat)(p:Aj)(l:(List Â))(r:(Unit×Aj))(h:A3 n p l=some r):CV Tryz.prog 108 [hS l] [oT p.l,bP p.bad] (.ret (.tup [])) [oT r.2.l,bP r.2.bad]:=by
 unfold A3 at h
 refine vM ⟨[0,1,5,6,7,8,9],[]⟩ Tryz.func108 follows fun Q hQ=>?_
 refine mE 1 [(1,fl Bv l)] h (fun p1=>⟨[],[[oT p1,bP p.bad]]⟩) ?_ fun y e hJ=>?_
 rintro p1 h
 cases h
 exact rt 0 [] hQ
 refine lF 1 [] (A:=(Int×(List Ab))) (fun n (v8,p2)=>Cw n l v8 p2) (fun (v8,p2)=>⟨[(0,.ptr 0 0),(6,hS l),(7,iP (l.length:Int)),(8,iP v8)],[[oT p2,bP p.bad]]⟩) (0,p.l) e (fun _=>rfl) ?_
 rintro n ⟨v8,p2⟩ e ih
 replace e:=(Cw.eq_2 ..).symm.trans e
 refine cD 1 [] e (fun hc e=>?_) fun hc e=>?_
 obtain⟨x,hx,e⟩:=Ad e
 obtain⟨l1,hl1,e⟩:=Ad e
 obtain⟨l2,hl2,e⟩:=Ad e
 exact mJ 4 [(0,fi Bv hx),(9,fB Bh hl1),(0,fa Bh hl2)] (ih (_,_) e)
 exact mJ 1 [] (hJ _ (oj e))
theorem Te (n:Nat)(e:Aa)(r:Int)(h:HO n e=some r):CZ Tryz.prog 157 [.agg [iP e.Op,iP e.N,tP e.S,hX e.Kids,iP e.At]] (iP r):=by
 unfold HO at h
 refine vP ⟨[0,1,2,4,6,7,9,11,13,14,15,16,23],[]⟩ Tryz.func157 follows fun Q hQ=>?_
 refine cD 4 [] h (fun hc4 h=>?_) fun hc4 h=>?_
 cases h
 exact rt 1 [] hQ
 refine cD 1 [] h (fun hc3 h=>?_) fun hc3 h=>?_
 cases h
 exact rt 1 [] hQ
 refine cD 1 [] h (fun hc2 h=>?_) fun hc2 h=>?_
 cases h
 exact rt 1 [] hQ
 obtain⟨o_,ho_,h⟩:=Ad h
 refine mI 1 [(0,fk (DF _ ho_)),(0,fl Cv o_)] h (fun _=>⟨[(2,iP 0)],[[iP e.Op,iP e.N,tP e.S,hX e.Kids,iP e.At]]⟩) ?_ fun y e1 h hJ=>?_
 rintro _ h
 cases h
 exact rt 1 [] hQ
 refine lF 1 [] (A:=Int) (fun n v15=>DO n o_ e v15) (fun v15=>⟨[(1,.ptr 0 0),(2,iP 0),(13,oE o_),(14,iP (o_.length:Int)),(15,iP v15)],[[iP e.Op,iP e.N,tP e.S,hX e.Kids,iP e.At]]⟩) 0 e1 (fun _=>rfl) ?_
 rintro n v15 e1 ih
 replace e1:=(DO.eq_2 ..).symm.trans e1
 refine cD 1 [] e1 (fun hc1 e1=>?_) fun hc1 e1=>?_
 obtain⟨x,hx,e1⟩:=Ad e1
 refine cD 3 [(0,fi Cv hx)] e1 (fun hc e1=>?_) fun hc e1=>?_
 cases e1
 cases h
 exact rt 1 [] hQ
 exact mJ 1 [] (ih _ e1)
 exact mJ 1 [] (hJ _ (oj e1))
theorem Jx (p:(List Ab))(p1:Bool)(e:Int)(e1:Int)(e2:Â)(e3:(List Aa))(e4:Int)(b:Ar)(r:Bool)(h:Ds p p1 e e1 e2 e3 e4 b=some r):M9 Tryz.prog 136 [.agg [tP b.sign,iP b.op,iP b.level],.ptr 1 0] [[oT p,bP p1],[iP e,iP e1,tP e2,hX e3,iP e4],QC] (.ret (bP r)) [[oT p,bP p1],[iP e,iP e1,tP e2,hX e3,iP e4],QC]:=by
 unfold Ds at h
 refine vS ⟨[0,1,2,3],[]⟩ Tryz.func136 follows fun Q hQ=>?_
 cases h
 exact rt 2 [] hQ
theorem HV (n:Nat)(p:(List Ab))(p1:Bool)(e:Int)(e1:Int)(e2:Â)(e3:(List Aa))(e4:Int)(s:(List Ar))(r:Int)(h:BD n p p1 e e1 e2 e3 e4 s=some r):M9 Tryz.prog 134 [hE s,.fn 136 [.ptr 1 0]] [[oT p,bP p1],[iP e,iP e1,tP e2,hX e3,iP e4],QC] (.ret (iP r)) [[oT p,bP p1],[iP e,iP e1,tP e2,hX e3,iP e4],QC]:=by
 unfold BD at h
 refine vS ⟨[0,1,4,5,7,8,9,16],[]⟩ Tryz.func134 follows fun Q hQ=>?_
 refine mI 2 [(2,fl Cv s)] h (fun _=>⟨[(4,iP 0)],[[oT p,bP p1],[iP e,iP e1,tP e2,hX e3,iP e4],QC]⟩) ?_ fun y e5 h hJ=>?_
 rintro _ h
 cases h
 exact rt 1 [] hQ
 refine lF 1 [] (A:=Int) (fun n v8=>AK n s p p1 e e1 e2 e3 e4 v8) (fun v8=>⟨[(0,hE s),(1,.fn 136 [.ptr 1 0]),(4,iP 0),(7,iP (s.length:Int)),(8,iP v8)],[[oT p,bP p1],[iP e,iP e1,tP e2,hX e3,iP e4],QC]⟩) 0 e5 (fun _=>rfl) ?_
 rintro n v8 e5 ih
 replace e5:=(AK.eq_2 ..).symm.trans e5
 refine cD 1 [] e5 (fun hc1 e5=>?_) fun hc1 e5=>?_
 obtain⟨x,hx,e5⟩:=Ad e5
 obtain⟨e6,he6,e5⟩:=Ad e5
 refine cD 3 [(5,fi Cv hx),(1,fs (Jx _ _ _ _ _ _ _ _ _ he6))] e5 (fun hc e5=>?_) fun hc e5=>?_
 cases e5
 cases h
 exact rt 1 [] hQ
 exact mJ 1 [] (ih _ e5)
 exact mJ 1 [] (hJ _ (oj e5))
theorem Le (n0:Nat)
 (ih_parse_printer_expr:∀ m,m<=n0->∀ (p:Aj) (e:Aa) (r:(Unit×Aj)),Be m p e=some r->CV Tryz.prog 111 [.agg [iP e.Op,iP e.N,tP e.S,hX e.Kids,iP e.At]] [oT p.l,bP p.bad] (.ret (.tup [])) [oT r.2.l,bP r.2.bad])
 (ih_parse_printer_operand:∀ m,m<=n0->∀ (p:Aj) (e:Aa) (need:Int) (r:(Unit×Aj)),Az m p e need=some r->CV Tryz.prog 133 [.agg [iP e.Op,iP e.N,tP e.S,hX e.Kids,iP e.At],iP need] [oT p.l,bP p.bad] (.ret (.tup [])) [oT r.2.l,bP r.2.bad])
 (n:Nat) (hn:n<=n0) (p:Aj) (e:Aa) (r:(Unit×Aj)) (h:Be (n+1) p e=some r):CV Tryz.prog 111 [.agg [iP e.Op,iP e.N,tP e.S,hX e.Kids,iP e.At]] [oT p.l,bP p.bad] (.ret (.tup [])) [oT r.2.l,bP r.2.bad]:=by
 replace h:=(Be.eq_2 ..).symm.trans h
 refine vM ⟨[0,1,3,4,5,6,7,8,9,13,24,35,59,65,71,77,87,88,89,90,95,106,117,122,147,158],[]⟩ Tryz.func111 follows fun Q hQ=>?_
 refine cD 5 [] h (fun hc14 h=>?_) fun hc14 h=>?_
 obtain⟨n_,hn_,h⟩:=Ad h
 cases h
 exact rt 1 [(3,fm (Fg _ _ _ hn_))] hQ
 refine cD 1 [] h (fun hc13 h=>?_) fun hc13 h=>?_
 obtain⟨t,ht,h⟩:=Ad h
 cases h
 exact rt 1 [(3,fm (Ie _ _ _ _ ht))] hQ
 refine cD 1 [] h (fun hc12 h=>?_) fun hc12 h=>?_
 obtain⟨n_1,hn_1,h⟩:=Ad h
 cases h
 exact rt 1 [(3,fm (E5 _ _ _ _ hn_1))] hQ
 refine cD 1 [] h (fun hc11 h=>?_) fun hc11 h=>?_
 obtain⟨n_2,hn_2,h⟩:=Ad h
 obtain⟨l,hl,h⟩:=Ad h
 obtain⟨s,hs,h⟩:=Ad h
 refine mE 3 [(3,fm (E5 _ _ _ _ hn_2)),(1,fB Bv hl),(0,fm (AA _ _ _ _ hs)),(2,fl A7 e.Kids)] h (fun (p1,p2)=>⟨[(0,.ptr 0 0)],[[oT p1,bP p2],[iP e.Op,iP e.N,tP e.S,hX e.Kids,iP e.At],QC]⟩) ?_ fun y e1 hJ=>?_
 rintro⟨p1,p2⟩ h
 obtain⟨l1,hl1,h⟩:=Ad h
 obtain⟨s1,hs1,h⟩:=Ad h
 cases h
 exact rt 1 [(1,fB Bv hl1),(0,fm (AA _ _ _ _ hs1))] hQ
 refine lR 1 [] (A:=(Int×(List Ab)×Bool)) (fun n (v89,p3,p4)=>Bo n e l v89 p3 p4) (fun (v89,p3,p4)=>⟨[(0,.ptr 0 0),(87,hX e.Kids),(88,iP (e.Kids.length:Int)),(89,iP v89)],[[oT p3,bP p4],[iP e.Op,iP e.N,tP e.S,hX e.Kids,iP e.At],QC]⟩) (0,s.2.l,s.2.bad) hn e1 (fun _=>rfl) ?_
 rintro n ⟨v89,p3,p4⟩ hn e1 ih
 replace e1:=(Bo.eq_2 ..).symm.trans e1
 refine cD 1 [] e1 (fun hc1 e1=>?_) fun hc1 e1=>?_
 obtain⟨x,hx,e1⟩:=Ad e1
 refine cD 3 [(1,fi A7 hx)] e1 (fun hc e1=>?_) fun hc e1=>?_
 obtain⟨l2,hl2,e1⟩:=Ad e1
 obtain⟨s2,hs2,e1⟩:=Ad e1
 obtain⟨o_,ho_,e1⟩:=Ad e1
 exact mJ 3 [(1,fB Bv hl2),(0,fm (AA _ _ _ _ hs2)),(2,fm (ih_parse_printer_operand _ hn _ _ _ _ ho_))] (ih (_,_,_) e1)
 obtain⟨o_1,ho_1,e1⟩:=Ad e1
 exact mJ 2 [(2,fm (ih_parse_printer_operand _ hn _ _ _ _ ho_1))] (ih (_,_,_) e1)
 exact mJ 1 [] (hJ _ (oj e1))
 refine mE 1 [] h (fun v106=>⟨[(0,.ptr 0 0),(3,.ptr 1 0),(4,.mref 2),(106,bP v106)],[[oT p.l,bP p.bad],[iP e.Op,iP e.N,tP e.S,hX e.Kids,iP e.At],QC]⟩) ?_ fun y1 e2 hJ1=>?_
 rintro v106 h
 refine cD 0 [] h (fun hc8 h=>?_) fun hc8 h=>?_
 refine cD 1 [(2,fl A7 e.Kids),(3,fL [(5,1),(6,1),(20,3)] e.Op)] h (fun hc4 h=>?_) fun hc4 h=>?_
 cases h
 exact rt 1 [] hQ
 refine cD 3 [] h (fun hc3 h=>?_) fun hc3 h=>?_
 obtain⟨l3,hl3,h⟩:=Ad h
 obtain⟨s3,hs3,h⟩:=Ad h
 obtain⟨x1,hx1,h⟩:=Ad h
 obtain⟨o_2,ho_2,h⟩:=Ad h
 cases h
 exact rt 2 [(1,fB Bv hl3),(0,fm (AA _ _ _ _ hs3)),(3,fi A7 hx1),(1,fm (ih_parse_printer_operand _ hn _ _ _ _ ho_2))] hQ
 refine cD 1 [] h (fun hc2 h=>?_) fun hc2 h=>?_
 obtain⟨l4,hl4,h⟩:=Ad h
 obtain⟨s4,hs4,h⟩:=Ad h
 obtain⟨x2,hx2,h⟩:=Ad h
 obtain⟨o_3,ho_3,h⟩:=Ad h
 cases h
 exact rt 2 [(1,fB Bv hl4),(0,fm (AA _ _ _ _ hs4)),(3,fi A7 hx2),(1,fm (ih_parse_printer_operand _ hn _ _ _ _ ho_3))] hQ
 obtain⟨x3,hx3,h⟩:=Ad h
 obtain⟨o_4,ho_4,h⟩:=Ad h
 obtain⟨l5,hl5,h⟩:=Ad h
 obtain⟨s5,hs5,h⟩:=Ad h
 obtain⟨x4,hx4,h⟩:=Ad h
 obtain⟨o_5,ho_5,h⟩:=Ad h
 obtain⟨l6,hl6,h⟩:=Ad h
 obtain⟨s6,hs6,h⟩:=Ad h
 obtain⟨x5,hx5,h⟩:=Ad h
 obtain⟨o_6,ho_6,h⟩:=Ad h
 cases h
 exact rt 5 [(3,fi A7 hx3),(1,fm (ih_parse_printer_operand _ hn _ _ _ _ ho_4)),(1,fB Bv hl5),(0,fm (AA _ _ _ _ hs5)),(3,fi A7 hx4),(1,fm (ih_parse_printer_operand _ hn _ _ _ _ ho_5)),(1,fB Bv hl6),(0,fm (AA _ _ _ _ hs6)),(3,fi A7 hx5),(1,fm (ih_parse_printer_operand _ hn _ _ _ _ ho_6))] hQ
 obtain⟨o_7,ho_7,h⟩:=Ad h
 obtain⟨k,hk,h⟩:=Ad h
 refine mE 1 [(0,fk (DF _ ho_7)),(1,fs (HV _ _ _ _ _ _ _ _ _ _ hk))] h (fun v24=>⟨[(0,.ptr 0 0),(3,.ptr 1 0),(7,iP k),(24,bP v24)],[[oT p.l,bP p.bad],[iP e.Op,iP e.N,tP e.S,hX e.Kids,iP e.At],QC]⟩) ?_ fun y2 e3 hJ2=>?_
 rintro v24 h
 refine cD 0 [] h (fun hc6 h=>?_) fun hc6 h=>?_
 cases h
 exact rt 1 [] hQ
 obtain⟨o_8,ho_8,h⟩:=Ad h
 obtain⟨x6,hx6,h⟩:=Ad h
 refine mE 3 [(0,fk (DF _ ho_8)),(1,fi Cv hx6)] h (fun left=>⟨[(0,.ptr 0 0),(3,.ptr 1 0),(8,.ptr 3 0),(9,iP left)],[[oT p.l,bP p.bad],[iP e.Op,iP e.N,tP e.S,hX e.Kids,iP e.At],QC,[tP x6.sign,iP x6.op,iP x6.level]]⟩) ?_ fun y3 e4 hJ3=>?_
 rintro left h
 obtain⟨x7,hx7,h⟩:=Ad h
 obtain⟨o_9,ho_9,h⟩:=Ad h
 obtain⟨l7,hl7,h⟩:=Ad h
 obtain⟨s7,hs7,h⟩:=Ad h
 obtain⟨x8,hx8,h⟩:=Ad h
 obtain⟨o_10,ho_10,h⟩:=Ad h
 cases h
 exact rt 3 [(3,fi A7 hx7),(2,fm (ih_parse_printer_operand _ hn _ _ _ _ ho_9)),(3,fB Bv hl7),(0,fm (AA _ _ _ _ hs7)),(3,fi A7 hx8),(6,fm (ih_parse_printer_operand _ hn _ _ _ _ ho_10))] hQ
 refine cD 0 [] e4 (fun hc5 e4=>?_) fun hc5 e4=>?_
 exact mJ 1 [] (hJ3 _ (oj e4))
 exact mJ 0 [] (hJ3 _ (oj e4))
 rcases An e3 with⟨hc7,e3⟩|⟨hc7,e3⟩
 exact mJ 1 [(2,fo hc7)] (hJ2 _ (oj e3))
 exact mJ 1 [(2,fo hc7),(2,fl A7 e.Kids)] (hJ2 _ (oj e3))
 refine cD 0 [] e2 (fun hc10 e2=>?_) fun hc10 e2=>?_
 exact mJ 0 [] (hJ1 _ (oj e2))
 refine cD 1 [] e2 (fun hc9 e2=>?_) fun hc9 e2=>?_
 exact mJ 0 [] (hJ1 _ (oj e2))
 exact mJ 1 [] (hJ1 _ (oj e2))
theorem Jw (n0:Nat)
 (ih_parse_printer_expr:∀ m,m<=n0->∀ (p:Aj) (e:Aa) (r:(Unit×Aj)),Be m p e=some r->CV Tryz.prog 111 [.agg [iP e.Op,iP e.N,tP e.S,hX e.Kids,iP e.At]] [oT p.l,bP p.bad] (.ret (.tup [])) [oT r.2.l,bP r.2.bad])
 (ih_parse_printer_operand:∀ m,m<=n0->∀ (p:Aj) (e:Aa) (need:Int) (r:(Unit×Aj)),Az m p e need=some r->CV Tryz.prog 133 [.agg [iP e.Op,iP e.N,tP e.S,hX e.Kids,iP e.At],iP need] [oT p.l,bP p.bad] (.ret (.tup [])) [oT r.2.l,bP r.2.bad])
 (n:Nat) (hn:n<=n0) (p:Aj) (e:Aa) (need:Int) (r:(Unit×Aj)) (h:Az (n+1) p e need=some r):CV Tryz.prog 133 [.agg [iP e.Op,iP e.N,tP e.S,hX e.Kids,iP e.At],iP need] [oT p.l,bP p.bad] (.ret (.tup [])) [oT r.2.l,bP r.2.bad]:=by
 replace h:=(Az.eq_2 ..).symm.trans h
 refine vM ⟨[0,1,2,4,9],[]⟩ Tryz.func133 follows fun Q hQ=>?_
 obtain⟨l,hl,h⟩:=Ad h
 refine cD 2 [(2,fk (Te _ _ _ hl))] h (fun hc h=>?_) fun hc h=>?_
 obtain⟨e1,he1,h⟩:=Ad h
 cases h
 exact rt 1 [(2,fm (ih_parse_printer_expr _ hn _ _ _ he1))] hQ
 obtain⟨l1,hl1,h⟩:=Ad h
 obtain⟨s,hs,h⟩:=Ad h
 obtain⟨e2,he2,h⟩:=Ad h
 obtain⟨l2,hl2,h⟩:=Ad h
 obtain⟨s1,hs1,h⟩:=Ad h
 cases h
 exact rt 3 [(1,fB Bv hl1),(0,fm (AA _ _ _ _ hs)),(2,fm (ih_parse_printer_expr _ hn _ _ _ he2)),(1,fB Bv hl2),(0,fm (AA _ _ _ _ hs1))] hQ
theorem GV:∀ n:Nat,(∀ m,m<=n->∀ (p:Aj) (e:Aa) (r:(Unit×Aj)),Be m p e=some r->CV Tryz.prog 111 [.agg [iP e.Op,iP e.N,tP e.S,hX e.Kids,iP e.At]] [oT p.l,bP p.bad] (.ret (.tup [])) [oT r.2.l,bP r.2.bad])/\(∀ m,m<=n->∀ (p:Aj) (e:Aa) (need:Int) (r:(Unit×Aj)),Az m p e need=some r->CV Tryz.prog 133 [.agg [iP e.Op,iP e.N,tP e.S,hX e.Kids,iP e.At],iP need] [oT p.l,bP p.bad] (.ret (.tup [])) [oT r.2.l,bP r.2.bad])
 |0=>⟨(fun m hm p e r h=>by
  obtain rfl:m=0:=by omega
  exact absurd h (by simp [Be])),
  (fun m hm p e need r h=>by
   obtain rfl:m=0:=by omega
   exact absurd h (by simp [Az]))⟩
 |n+1=>by
  have ih:=GV n
  exact⟨fun m hm p e r h=>by
   cases m with
   |zero=>exact absurd h (by simp [Be])
   |succ m=>exact Le n (ih.1) (ih.2) m (by omega) p e _ h,
  fun m hm p e need r h=>by
   cases m with
   |zero=>exact absurd h (by simp [Az])
   |succ m=>exact Jw n (ih.1) (ih.2) m (by omega) p e need _ h⟩
theorem M4 (n:Nat)(p:Aj)(e:Aa)(r:(Unit×Aj))(h:Be n p e=some r):CV Tryz.prog 111 [.agg [iP e.Op,iP e.N,tP e.S,hX e.Kids,iP e.At]] [oT p.l,bP p.bad] (.ret (.tup [])) [oT r.2.l,bP r.2.bad] :=
 (GV n).1 n (Õ _) p e r h
end Go.Proofs.YtkcfmlfkfagejaaGreatDoor
namespace Go.Sp
open Go Go.Vl
set_option linter.unusedVariables false
def Nf (s:Â)(c:Int):Option Int:=some (Lib.indexByte s.data.toList c.toNat.toUInt8)
def WR (s p:Â):Option Bool:=some (Lib.hasPrefix s.data.toList p.data.toList)
def TA (s p:Â):Option Bool:=match p.data.toList with | [c]=>some (decide (0<=Lib.indexByte s.data.toList c))|_=>none
def S6:Â:=⟨#[45,62,32,58,61,32,61,61,32,33,61,32,60,61,32,62,61,32,38,38,32,124,124,32,46,46]⟩
def Mr (s:Â):Option (List Â):=if s=S6 then some (Lx.long.map fun l=>⟨⟨l⟩⟩) else none
def Ng (s:Â):Option Unit:=if s.size<=1000000 then some () else none
def O9 (s:Â):Bool:=match Lib.atoiAll s.data.toList with|.ok _=>false|_=>true
def NJ (n:Int):Option Â:=if -9223372036854775808<=n/\n<=9223372036854775807 then some ⟨⟨Lib.itoa n⟩⟩ else none
def NI (l:List Â)(sep:Â):Option Â:=if l.length<=140737488355328/\(Lib.join (l.map (·.data.toList)) sep.data.toList).length<=140737488355328 then some ⟨⟨Lib.join (l.map (·.data.toList)) sep.data.toList⟩⟩ else none
def LI (s:Â):Int:=match Lib.atoiAll s.data.toList with|.ok v=>v|.range=>Lib.atoiSat s.data.toList|_=>0
structure Aq where
 src:Â
 at_:Int
 out:(List Ab)
def EM (c:Int):Option Int :=
 bif (c == 95) then
  some 3
 else
  ((bif (decide (97<=c)) then
   some (decide (c<=122))
  else
   some false
  ):Option Bool).bind fun v6 =>
   ((bif v6 then
    some v6
   else
    ((bif (decide (65<=c)) then
     some (decide (c<=90))
    else
     some false
    ):Option Bool).bind fun v62 =>
     some v62
   ):Option Bool).bind fun v61 =>
    bif v61 then
     some 3
    else
     ((bif (decide (48<=c)) then
      some (decide (c<=57))
     else
      some false
     ):Option Bool).bind fun v19 =>
      bif v19 then
       some 2
      else
       ((bif (c == 32) then
        some (c == 32)
       else
        bif (c == 9) then
         some (c == 9)
        else
         bif (c == 10) then
          some (c == 10)
         else
          some (c == 13)
       ):Option Bool).bind fun v26 =>
        bif v26 then
         some 1
        else
         some 0
def AV:Nat->Aq->Int->Option (Int ⊕ (Unit×Aq))
 |0,_,_=>none
 |n+1,r_,r_2 =>
  bif (decide (r_2<(r_.src.size:Int))) then
   (gb r_.src r_2).bind fun c =>
   bif (c == 35) then
    (NQ r_.src r_2 (r_.src.size:Int)).bind fun s =>
    (Nf s 10).bind fun n_ =>
    bif (decide (n_<0)) then
     AV n r_ (À (r_2+(À ((r_.src.size:Int)-r_2))))
    else
     AV n r_ (À (r_2+n_))
   else
    (EM c).bind fun c1 =>
    bif (c1 == 1) then
     AV n r_ (À (r_2+1))
    else
     some (.inr ((),(Aq.mk r_.src r_2 r_.out)))
  else
   some (.inl r_2)
def Ek (n:Nat)(r_:Aq):Option (Unit×Aq) :=
 ((AV n r_ r_.at_
 ):Option (Int ⊕ (Unit×Aq))).bind fun y=>match y with
 |.inl r_1 =>
  some ((),(Aq.mk r_.src r_1 r_.out))
 |.inr o=>some o
def BM:Nat->Aq->Int->Int->Option Int
 |0,_,_,_=>none
 |n+1,r_,least,to_1 =>
  ((bif (decide (to_1<(r_.src.size:Int))) then
   (gb r_.src to_1).bind fun c =>
   (EM c).bind fun c1 =>
   some (decide (least<=c1))
  else
   some false
  ):Option Bool).bind fun v27 =>
   bif v27 then
    BM n r_ least (À (to_1+1))
   else
    some to_1
def Ej (n:Nat)(r_:Aq)(least:Int):Option Int :=
 ((BM n r_ least r_.at_
 ):Option Int).bind fun to_ =>
  some to_
def BK (r_:Aq)(kind:Int)(to_:Int)(s:Â)(n_:Int):Option (Int×Aq) :=
 (some [(Ab.mk kind r_.at_ s n_)]).bind fun l =>
 (B4 41 r_.out l).bind fun l1 =>
 some (0,(Aq.mk r_.src to_ l1))
def En (n:Nat)(r_:Aq):Option ((Bool×Int)×Aq) :=
 (gb r_.src r_.at_).bind fun c =>
 (EM c).bind fun c1 =>
 bif (c1 != 3) then
  some ((false,0),r_)
 else
  (Ej n r_ 2).bind fun to_ =>
  bif (decide (32<(À (to_-r_.at_)))) then
   some ((true,2),r_)
  else
   (NQ r_.src r_.at_ to_).bind fun s =>
   (BK r_ 1 to_ s 0).bind fun p =>
   some ((true,p.1),p.2)
def D3 (n:Nat)(r_:Aq):Option ((Bool×Int)×Aq) :=
 (gb r_.src r_.at_).bind fun c =>
 (EM c).bind fun c1 =>
 bif (c1 != 2) then
  some ((false,0),r_)
 else
  (Ej n r_ 2).bind fun to_ =>
  (NQ r_.src r_.at_ to_).bind fun s =>
  (Ng s).bind fun _ =>
  bif O9 s then
   some ((true,27),r_)
  else
   ((bif (decide (15<(s.size:Int))) then
    some ((LI s),true)
   else
    bif (decide (1<(s.size:Int))) then
     (gb s 0).bind fun c2 =>
     some ((LI s),(c2 == 48))
    else
     some ((LI s),false)
   ):Option (Int×Bool)).bind fun y=>match y with
   |(n_,v52) =>
    bif v52 then
     some ((true,27),r_)
    else
     (BK r_ 2 to_ ⟨#[]⟩ n_).bind fun p =>
     some ((true,p.1),p.2)
def AF:Nat->Aq->(List Int)->Int->Option (Unit ⊕ ((Bool×Int)×Aq))
 |0,_,_,_=>none
 |n+1,r_,b,k =>
  bif (decide ((b.length:Int)<=200)) then
   bif (decide ((r_.src.size:Int)<=k)) then
    some (.inr ((true,28),r_))
   else
    (gb r_.src k).bind fun c1 =>
    bif (c1 == 34) then
     (BK r_ 3 (À (k+1)) (Abg b) 0).bind fun p =>
     some (.inr ((true,p.1),p.2))
    else
     bif (c1 == 92) then
      ((bif (decide ((À (k+1))<(r_.src.size:Int))) then
       (gb r_.src (À (k+1))).bind fun c3 =>
       (Nf ⟨#[34,92,110]⟩ c3).bind fun pair1 =>
       some pair1
      else
       some (-1)
      ):Option Int).bind fun pair =>
       bif (decide (pair<0)) then
        some (.inr ((true,28),r_))
       else
        (gb ⟨#[34,92,10]⟩ pair).bind fun c2 =>
        (some [c2]).bind fun l =>
        (B4 2 b l).bind fun l1 =>
        AF n r_ l1 (À ((À (k+1))+1))
     else
      ((bif (decide (c1<32)) then
       some true
      else
       some (decide (126<c1))
      ):Option Bool).bind fun v80 =>
       bif v80 then
        some (.inr ((true,28),r_))
       else
        (some [c1]).bind fun l2 =>
        (B4 2 b l2).bind fun l3 =>
        AF n r_ l3 (À (k+1))
  else
   some (.inl ())
def Ei (n:Nat)(r_:Aq):Option ((Bool×Int)×Aq) :=
 (gb r_.src r_.at_).bind fun c =>
 bif (c != 34) then
  some ((false,0),r_)
 else
  ((AF n r_ [] (À (r_.at_+1))
  ):Option (Unit ⊕ ((Bool×Int)×Aq))).bind fun y=>match y with
  |.inl _ =>
   some ((true,2),r_)
  |.inr o=>some o
def Ct:Nat->(List Â)->Â->Aq->Int->Option (Unit ⊕ ((Bool×Int)×Aq))
 |0,_,_,_,_=>none
 |n+1,f,s,r_,v18 =>
  bif (decide (v18<(f.length:Int))) then
   (gi f v18).bind fun x =>
   (WR s x).bind fun h_ =>
   bif h_ then
    (BK r_ 4 (À (r_.at_+2)) x 0).bind fun p1 =>
    some (.inr ((true,p1.1),p1.2))
   else
    Ct n f s r_ (À (v18+1))
  else
   some (.inl ())
def El (n:Nat)(r_:Aq):Option ((Bool×Int)×Aq) :=
 (NQ r_.src r_.at_ (r_.src.size:Int)).bind fun s =>
 (Mr ⟨#[45,62,32,58,61,32,61,61,32,33,61,32,60,61,32,62,61,32,38,38,32,124,124,32,46,46]⟩).bind fun f =>
 ((Ct n f s r_ 0
 ):Option (Unit ⊕ ((Bool×Int)×Aq))).bind fun y=>match y with
 |.inl _ =>
  (NQ s 0 1).bind fun s1 =>
  (TA ⟨#[40,41,123,125,91,93,44,59,58,46,43,45,42,47,37,60,62,61,33,38,124,64,63,94,126]⟩ s1).bind fun c =>
  bif (!c) then
   some ((false,0),r_)
  else
   (BK r_ 4 (À (r_.at_+1)) s1 0).bind fun p =>
   some ((true,p.1),p.2)
 |.inr o=>some o
def A1:Nat->Int->Â->Int->(List Ab)->Option ((ByteArray×Int×(List Ab)) ⊕ (Int×Aq))
 |0,_,_,_,_=>none
 |n+1,v8,r_4,r_5,r_6 =>
  bif (v8 == 0) then
   (En n (Aq.mk r_4 r_5 r_6)).bind fun n_1 =>
   bif n_1.1.1 then
    some (.inr (n_1.1.2,n_1.2))
   else
    A1 n 1 n_1.2.src n_1.2.at_ n_1.2.out
  else
   bif (v8 == 1) then
    (D3 n (Aq.mk r_4 r_5 r_6)).bind fun n_ =>
    bif n_.1.1 then
     some (.inr (n_.1.2,n_.2))
    else
     A1 n 2 n_.2.src n_.2.at_ n_.2.out
   else
    bif (v8 == 2) then
     (Ei n (Aq.mk r_4 r_5 r_6)).bind fun t =>
     bif t.1.1 then
      some (.inr (t.1.2,t.2))
     else
      A1 n 3 t.2.src t.2.at_ t.2.out
    else
     bif (v8 == 3) then
      (El n (Aq.mk r_4 r_5 r_6)).bind fun s =>
      bif s.1.1 then
       some (.inr (s.1.2,s.2))
      else
       A1 n 4 s.2.src s.2.at_ s.2.out
     else
      bif (v8 == 4) then
       some (.inl (r_4,r_5,r_6))
      else
       none
def Em (n:Nat)(r_:Aq):Option (Int×Aq) :=
 ((A1 n 0 r_.src r_.at_ r_.out
 ):Option ((ByteArray×Int×(List Ab)) ⊕ (Int×Aq))).bind fun y=>match y with
 |.inl (r_1,r_2,r_3) =>
  some (26,(Aq.mk r_1 r_2 r_3))
 |.inr o=>some o
def C7:Nat->Â->Â->Int->(List Ab)->Option ((ByteArray×Int×(List Ab)) ⊕ ((List Ab)×Am))
 |0,_,_,_,_=>none
 |n+1,src,q3,q4,q5 =>
  bif (decide (q4<(src.size:Int))) then
   (Em n (Aq.mk q3 q4 q5)).bind fun e1 =>
   bif (e1.1 != 0) then
    some (.inr ([],(Am.mk e1.2.at_ e1.1)))
   else
    (Ek n e1.2).bind fun s1 =>
    C7 n src s1.2.src s1.2.at_ s1.2.out
  else
   some (.inl (q3,q4,q5))
def Iq (n:Nat)(src:Â):Option ((List Ab)×Am) :=
 bif (decide (65536<(src.size:Int))) then
  some ([],(Am.mk 0 2))
 else
  (Ek n (Aq.mk src 0 [])).bind fun s =>
  ((C7 n src s.2.src s.2.at_ s.2.out
  ):Option ((ByteArray×Int×(List Ab)) ⊕ ((List Ab)×Am))).bind fun y=>match y with
  |.inl (q,q1,q2) =>
   (BK (Aq.mk q q1 q2) 5 (src.size:Int) ⟨#[]⟩ 0).bind fun p =>
   some (p.2.out,(Am.mk 0 0))
  |.inr o=>some o
def Dg:Nat->(List Ab)->(List Â)->Int->Option (List Â)
 |0,_,_,_=>none
 |n+1,l,words1,v8 =>
  bif (decide (v8<(l.length:Int))) then
   (gi l v8).bind fun x =>
   ((bif (x.Kind == 1) then
    some (x.Kind == 1)
   else
    some (x.Kind == 4)
   ):Option Bool).bind fun v14 =>
    bif v14 then
     (some [x.S]).bind fun l1 =>
     (B4 17 words1 l1).bind fun l2 =>
     Dg n l l2 (À (v8+1))
    else
     bif (x.Kind == 2) then
      (NJ x.N).bind fun i =>
      (some [i]).bind fun l3 =>
      (B4 17 words1 l3).bind fun l4 =>
      Dg n l l4 (À (v8+1))
     else
      bif (x.Kind == 3) then
       none
      else
       Dg n l words1 (À (v8+1))
  else
   some words1
def Ky (n:Nat)(l:(List Ab)):Option Â :=
 ((Dg n l [] 0
 ):Option (List Â)).bind fun words =>
  (NI words ⟨#[32]⟩).bind fun j =>
  some j
end Go.Sp
namespace Go.Proofs
open Go.Shelf
def Tryz.lays156_ren:Go.Shelf.Ren:=⟨fun|156=>115|165=>140|166=>141|169=>142|240=>162|241=>163|276=>191|277=>192|n=>n,fun|31=>143|9=>9|3=>3|4=>4|0=>0|20=>20|72=>215|76=>218|70=>213|37=>146|75=>217|127=>241|164=>273|5=>5|80=>73|n=>n,fun|n=>n⟩
theorem Tryz.lays156:Go.Proofs.Lays.n156 Tryz.prog Tryz.lays156_ren:={
 mixed:=by kernel_rfl
 f156:=Tryz.func115.trans (congrArg some (by kernel_rfl))
 f165:=Tryz.func140.trans (congrArg some (by kernel_rfl))
 f166:=Tryz.func141.trans (congrArg some (by kernel_rfl))
 f169:=Tryz.func142.trans (congrArg some (by kernel_rfl))
 f240:=Tryz.func162.trans (congrArg some (by kernel_rfl))
 f241:=Tryz.func163.trans (congrArg some (by kernel_rfl))
 f276:=Tryz.func191.trans (congrArg some (by kernel_rfl))
 f277:=Tryz.func192.trans (congrArg some (by kernel_rfl))
 t0:=Tryz.underlying0
 a0:=Tryz.isAgg0
 z0:=Tryz.sizeOf0
 v0:=Tryz.zeroValue0
 t3:=Tryz.underlying3
 a3:=Tryz.isAgg3
 z3:=Tryz.sizeOf3
 v3:=Tryz.zeroValue3
 t4:=Tryz.underlying4
 a4:=Tryz.isAgg4
 z4:=Tryz.sizeOf4
 v4:=Tryz.zeroValue4
 t9:=Tryz.underlying9
 a9:=Tryz.isAgg9
 z9:=Tryz.sizeOf9
 v9:=Tryz.zeroValue9
 t20:=Tryz.underlying20
 a20:=Tryz.isAgg20
 z20:=Tryz.sizeOf20
 v20:=Tryz.zeroValue20
 t31:=Tryz.underlying143
 a31:=Tryz.isAgg143
 z31:=Tryz.sizeOf143
 v31:=Tryz.zeroValue143
 t37:=Tryz.underlying146
 a37:=Tryz.isAgg146
 z37:=Tryz.sizeOf146
 v37:=Tryz.zeroValue146
 t70:=Tryz.underlying213
 a70:=Tryz.isAgg213
 z70:=Tryz.sizeOf213
 v70:=Tryz.zeroValue213
 t72:=Tryz.underlying215
 a72:=Tryz.isAgg215
 z72:=Tryz.sizeOf215
 v72:=Tryz.zeroValue215
 t75:=Tryz.underlying217
 a75:=Tryz.isAgg217
 z75:=Tryz.sizeOf217
 v75:=Tryz.zeroValue217
 t76:=Tryz.underlying218
 a76:=Tryz.isAgg218
 z76:=Tryz.sizeOf218
 v76:=Tryz.zeroValue218
 t127:=Tryz.underlying241
 a127:=Tryz.isAgg241
 z127:=Tryz.sizeOf241
 v127:=Tryz.zeroValue241
 t164:=Tryz.underlying273
 a164:=Tryz.isAgg273
 z164:=Tryz.sizeOf273
 v164:=Tryz.zeroValue273 }
theorem Tryz.Builder_Extra_156:Builder.Extra Tryz.prog Tryz.lays156_ren:={
 sizeBuilder:=by kernel_rfl
 liesBuilder:=by kernel_rfl
 t5:=Tryz.underlying5
 a5:=Tryz.isAgg5
 z5:=Tryz.sizeOf5
 v5:=Tryz.zeroValue5
 infoByte:=by kernel_rfl
 cellsByte:=by kernel_rfl
 sizeByte:=by kernel_rfl
 neB5:=by decide }
open Go.RowKit in
theorem Tryz.strings_Join_none (a:Option Addr)(c:Nat)(sep:ByteArray)(w:World) :
 Calls Tryz.prog 115 #[.slice a 0 c,.string sep] w fun e w'=>e=.returned (.string ⟨#[]⟩)/\w'=w:=Any.strings_Join_none Tryz.lays156 Tryz.Builder_Extra_156 a c sep w
open Go.RowKit in
theorem Tryz.strings_Join (bk o c:Nat)(xs:List ByteArray)(sep:ByteArray)(w:World)(hcells:∀ (j:Nat) x,xs[j]?=some x->w.cell? ⟨bk,o+j,none⟩=some (.string x))(hbk:bk<w.heap.size)(hN:xs.length<=140737488355328)(hcap:xs.length<=c)(hlen:(Lib.join (xs.map (·.data.toList)) sep.data.toList).length<=140737488355328) :
 Calls Tryz.prog 115 #[.slice (some ⟨bk,o,none⟩) xs.length c,.string sep] w fun e w'=>e=.returned (.string ⟨(Lib.join (xs.map (·.data.toList)) sep.data.toList).toArray⟩)/\Below w.heap.size w w':=Any.strings_Join Tryz.lays156 Tryz.Builder_Extra_156 bk o c xs sep w hcells hbk hN hcap hlen
def Tryz.laysM171_ren:Go.Shelf.Ren:=⟨fun|171=>112|243=>137|246=>158|283=>181|284=>182|285=>183|286=>184|129=>206|317=>205|318=>207|319=>208|320=>209|337=>227|338=>228|n=>n,fun|3=>3|9=>9|2=>2|4=>4|171=>253|0=>0|53=>185|37=>146|5=>5|173=>256|212=>282|51=>199|20=>20|213=>283|46=>236|232=>328|233=>329|n=>n,fun|17=>0|18=>4|19=>5|n=>n⟩
theorem Tryz.laysM171:Go.Proofs.LaysM.n171 Tryz.prog Tryz.laysM171_ren:={
 mixed:=by kernel_rfl
 f129:=Tryz.func206.trans (congrArg some (by kernel_rfl))
 f171:=Tryz.func112.trans (congrArg some (by kernel_rfl))
 f243:=Tryz.func137.trans (congrArg some (by kernel_rfl))
 f246:=Tryz.func158.trans (congrArg some (by kernel_rfl))
 f283:=Tryz.func181.trans (congrArg some (by kernel_rfl))
 f284:=Tryz.func182.trans (congrArg some (by kernel_rfl))
 f285:=Tryz.func183.trans (congrArg some (by kernel_rfl))
 f286:=Tryz.func184.trans (congrArg some (by kernel_rfl))
 f317:=Tryz.func205.trans (congrArg some (by kernel_rfl))
 f318:=Tryz.func207.trans (congrArg some (by kernel_rfl))
 f319:=Tryz.func208.trans (congrArg some (by kernel_rfl))
 f320:=Tryz.func209.trans (congrArg some (by kernel_rfl))
 f337:=Tryz.func227.trans (congrArg some (by kernel_rfl))
 f338:=Tryz.func228.trans (congrArg some (by kernel_rfl))
 t0:=Tryz.underlying0
 a0:=Tryz.isAgg0
 z0:=Tryz.sizeOf0
 v0:=Tryz.zeroValue0
 t2:=Tryz.underlying2
 a2:=Tryz.isAgg2
 z2:=Tryz.sizeOf2
 v2:=Tryz.zeroValue2
 t3:=Tryz.underlying3
 a3:=Tryz.isAgg3
 z3:=Tryz.sizeOf3
 v3:=Tryz.zeroValue3
 t4:=Tryz.underlying4
 a4:=Tryz.isAgg4
 z4:=Tryz.sizeOf4
 v4:=Tryz.zeroValue4
 t5:=Tryz.underlying5
 a5:=Tryz.isAgg5
 z5:=Tryz.sizeOf5
 v5:=Tryz.zeroValue5
 t9:=Tryz.underlying9
 a9:=Tryz.isAgg9
 z9:=Tryz.sizeOf9
 v9:=Tryz.zeroValue9
 t20:=Tryz.underlying20
 a20:=Tryz.isAgg20
 z20:=Tryz.sizeOf20
 v20:=Tryz.zeroValue20
 t37:=Tryz.underlying146
 a37:=Tryz.isAgg146
 z37:=Tryz.sizeOf146
 v37:=Tryz.zeroValue146
 t46:=Tryz.underlying236
 a46:=Tryz.isAgg236
 z46:=Tryz.sizeOf236
 v46:=Tryz.zeroValue236
 t51:=Tryz.underlying199
 a51:=Tryz.isAgg199
 z51:=Tryz.sizeOf199
 v51:=Tryz.zeroValue199
 t53:=Tryz.underlying185
 a53:=Tryz.isAgg185
 z53:=Tryz.sizeOf185
 v53:=Tryz.zeroValue185
 t171:=Tryz.underlying253
 a171:=Tryz.isAgg253
 z171:=Tryz.sizeOf253
 v171:=Tryz.zeroValue253
 t173:=Tryz.underlying256
 a173:=Tryz.isAgg256
 z173:=Tryz.sizeOf256
 v173:=Tryz.zeroValue256
 t212:=Tryz.underlying282
 a212:=Tryz.isAgg282
 z212:=Tryz.sizeOf282
 v212:=Tryz.zeroValue282
 t213:=Tryz.underlying283
 a213:=Tryz.isAgg283
 z213:=Tryz.sizeOf283
 t232:=Tryz.underlying328
 a232:=Tryz.isAgg328
 z232:=Tryz.sizeOf328
 v232:=Tryz.zeroValue328
 t233:=Tryz.underlying329
 a233:=Tryz.isAgg329
 z233:=Tryz.sizeOf329
 v233:=Tryz.zeroValue329
 g17:=by kernel_rfl
 g18:=by kernel_rfl
 g19:=by kernel_rfl
 i0:=by kernel_rfl
 i2:=by kernel_rfl
 i3:=by kernel_rfl
 i4:=by kernel_rfl
 i5:=by kernel_rfl
 i9:=by kernel_rfl
 i20:=by kernel_rfl
 i37:=by kernel_rfl
 i46:=by kernel_rfl
 i51:=by kernel_rfl
 i53:=by kernel_rfl
 i171:=by kernel_rfl
 i173:=by kernel_rfl
 i212:=by kernel_rfl
 i232:=by kernel_rfl
 i233:=by kernel_rfl
 m17:=by kernel_rfl
 m18:=by kernel_rfl
 m19:=by kernel_rfl }
open Go.RowKit Go.Sort Go.Lib in
theorem Tryz.strconv_Itoa (n:Int)(h0 : -9223372036854775808<=n)(h1:n<=9223372036854775807)(w:World)(htab:Lib.TabIs Tryz.prog w "internal/strconv.uint64pow10" .u64 Lib.pow10Tab) :
 Calls Tryz.prog 112 #[.int .i64 n] w fun e w'=>e=.returned (.string ⟨(Lib.itoa n).toArray⟩)/\∃ k os,w'=grow (w.drewN k) os:=Any.strconv_Itoa Tryz.laysM171 n h0 h1 w htab
end Go.Proofs
namespace Go.Proofs.YtkcfmlfkfagejaaGreatDoor
open Go.RowKit Go.Q Go.Vl Go.Sp
set_option maxRecDepth 100000
theorem XB (s:Â)(c:Int)(r:Int)(h:Nf s c=some r):CZ Tryz.prog 164 [tP s,uP c] (iP r):=by
 obtain rfl:=Ac h
 exact fun σ=>VC.lits [.string s,.int .u8 c] _ fun w _=>(Tryz.strings_IndexByte s c w).mono fun _ _ h=>⟨h.1,by rw [h.2];exact Below.refl _ _⟩
theorem Adb (s p:Â)(r:Bool)(h:WR s p=some r):CZ Tryz.prog 197 [tP s,tP p] (bP r):=by
 obtain rfl:=Ac h
 exact fun σ=>VC.lits [.string s,.string p] _ fun w _=>(Tryz.strings_HasPrefix s p w).mono fun _ _ h=>⟨h.1,by rw [h.2];exact Below.refl _ _⟩
theorem Adc (s p:Â)(r:Bool)(h:TA s p=some r):CZ Tryz.prog 198 [tP s,tP p] (bP r):=by
 unfold TA at h
 split at h
 . rename_i c e
   obtain rfl:=Ac h
   obtain rfl:p=⟨#[c]⟩:=by
    have:p=⟨⟨p.data.toList⟩⟩:=rfl
    rw [this,e]
   exact fun σ=>VC.lits [.string s,.string ⟨#[c]⟩] _ fun w _=>(Tryz.strings_Contains_one s c w).mono fun _ _ h=>⟨h.1,by rw [h.2];exact Below.refl _ _⟩
 . cases h
theorem Ahy {w:World}(h:PA w):Lib.TabIs Tryz.prog w "strings.asciiSpace" .u8 Lib.asciiSpaceTab:=by
 obtain⟨⟨⟨T,o,h0⟩,_⟩,_⟩:=h
 unfold Lib.TabIs World.var?
 rw [show Tryz.prog.globalNamed "strings.asciiSpace" = some 2 from by kernel_rfl]
 simp only [Á,h0]
theorem Wt (s:Â)(r:List Â)(h:Mr s=some r):CZ Tryz.prog 196 [tP s] (hP r BA):=by
 unfold Mr at h
 split at h
 . rename_i e
   subst e
   obtain rfl:=Ac h
   refine VC.fin (fun Q hQ=>?_) rfl rfl
   have hf:Lib.fields S6.data.toList=Lx.long:=by decide +kernel
   have ha:∀ (j:Nat) (b:UInt8),S6.data.toList[j]?=some b->b.toNat<128:=fun j b hb=>(show ∀ b∈S6.data.toList,b.toNat<128 by decide) b (Þ hb)
   have h:=VC.freshSl (P:=Tryz.prog) (f:=196) (σ:=[]) [.string S6] (Lx.long.map fun l=>.string ⟨⟨l⟩⟩) 9 (by simp [Lx.long,Value.oneCell']) (by decide) fun w hg=>by
    have:=Tryz.strings_Fields S6 w (by decide) ha (Ahy hg)
    rw [hf] at this
    refine this.mono fun e w' h=>?_
    rw [Ó]
    exact h
   rw [ġ] at h
   refine VC.mono h ?_
   rintro _ _ ⟨rfl,rfl⟩
   exact hQ _ rfl
 . cases h
theorem X4 {w w':World}(h:w'=w∨∃ t,w'=Lib.bytesWorld w 5 t):Below w.heap.size w w':=by
 rcases h with rfl|⟨t,rfl⟩
 . exact Below.refl _ _
 . exact⟨rfl,rfl,rfl,by rw [Lib.bytesWorld_size];omega,fun j hj=>Lib.bytesWorld_at_old w 5 t j hj⟩
theorem fit {s:Â}{u:Unit}(h:Ng s=some u):s.size<=1000000:=by
 unfold Ng at h
 split at h
 . assumption
 . cases h
theorem Ade (s:Â){u:Unit}(hf:Ng s=some u)(h:O9 s=false):CZ Tryz.prog 195 [tP s] (.tup [iP (LI s),.lit .nilIface]):=by
 have hs:=fit hf
 unfold O9 at h
 unfold LI
 split at h
 . rename_i v hv
   rw [hv]
   exact fun σ=>VC.litNil [.string s] _ fun w _=>(Tryz.strconv_Atoi_ok s (by omega) v hv w).mono fun _ _ h=>⟨h.1,X4 h.2⟩
 . cases h
theorem ZE (s:Â){u:Unit}(hf:Ng s=some u)(h:O9 s=true):CZ Tryz.prog 195 [tP s] (.tup [iP (LI s),.ifc]):=by
 have hs:=fit hf
 unfold O9 at h
 unfold LI
 intro σ
 cases hat:Lib.atoiAll s.data.toList with
 | «syntax» =>
  refine VC.litErr [.string s] _ fun w hg=>?_
  obtain⟨ev,hev1,hev2⟩:=hg.2.1
  refine (Tryz.strconv_Atoi_syntax s (by omega) hat ev w hev1 hev2).mono ?_
  rintro e wc ⟨NN,rfl,_,_,hbc⟩
  exact⟨⟨_,_,rfl⟩,hbc⟩
 |range =>
  refine VC.litErr [.string s] _ fun w hg=>?_
  obtain⟨ev,hev1,hev2⟩:=hg.2.2
  refine (Tryz.strconv_Atoi_range s (by omega) hat ev w hev1 hev2).mono ?_
  rintro e wc ⟨NN,rfl,_,_,hbc⟩
  exact⟨⟨_,_,rfl⟩,hbc⟩
 |ok v=>rw [hat] at h;cases h
theorem Ah8 {w:World}(h:PA w):Lib.TabIs Tryz.prog w "internal/strconv.uint64pow10" .u64 Lib.pow10Tab:=by
 obtain⟨⟨_,T,o,h0⟩,_⟩:=h
 unfold Lib.TabIs World.var?
 rw [show Tryz.prog.globalNamed "internal/strconv.uint64pow10" = some 0 from by kernel_rfl]
 simp only [Á,h0]
theorem X0 (w:World)(k:Nat)(os:Array Obj):Below w.heap.size w (Sort.grow (w.drewN k) os) :=
 ⟨rfl,rfl,rfl,by show w.heap.size<=(w.heap++os).size;rw [Array.size_append];omega,fun j hj=>by show (w.heap++os)[j]?=_;rw [ć hj]⟩
theorem Ahw (n:Int)(h0 : -9223372036854775808<=n)(h1:n<=9223372036854775807)(σ:List (List PV)):VC Tryz.prog 112 [.lit (.int .i64 n)] σ fun x σ'=>x=.ret (.lit (.string ⟨⟨Lib.itoa n⟩⟩))/\σ'=σ :=
 VC.lits [.int .i64 n] _ fun w hg=>(Tryz.strconv_Itoa n h0 h1 w (Ah8 hg)).mono fun e w' ⟨he,k,os,hw⟩=>⟨he,by rw [hw];exact X0 w k os⟩
def Ik (xs:List (List UInt8)):List (List PV):=xs.map fun x=>[.lit (.string ⟨⟨x⟩⟩)]
theorem Ahv (xs:List (List UInt8))(g:Grow)(sep:Â)(hN:xs.length<=140737488355328)(hlen:(Lib.join xs sep.data.toList).length<=140737488355328)(σ:List (List PV)) :
 VC Tryz.prog 115 [.sl (Ik xs) g,.lit (.string sep)] σ fun x σ'=>x=.ret (.lit (.string ⟨⟨Lib.join xs sep.data.toList⟩⟩))/\σ'=σ:=by
 intro w G vs hs hvs hv _ _
 have key:Calls Tryz.prog 115 vs w fun e w'=>e=.returned (.string ⟨⟨Lib.join xs sep.data.toList⟩⟩)/\Below w.heap.size w w':=by
  match vs,hvs,hv with
  |⟨[v0,v1]⟩,_,hv =>
   have h0:V w G.U G.φ (.sl (Ik xs) g) v0:=hv 0 (by simp)
   have h1:V w G.U G.φ (.lit (.string sep)) v1:=hv 1 (by simp)
   cases h1 with
   |lit _ _ =>
   obtain⟨rows,hrows⟩:∃ rows,Ik xs=rows:=⟨_,rfl⟩
   rw [hrows] at h0
   cases h0 with
   |nil =>
    have hx:xs=[]:=by cases xs with|nil=>rfl|cons a l=>cases hrows
    subst hx
    exact (Tryz.strings_Join_none none 0 sep w).mono fun e w' ⟨he,hw⟩=>⟨he,by rw [hw];exact Below.refl _ _⟩
   |emp =>
    have hx:xs=[]:=by cases xs with|nil=>rfl|cons a l=>cases hrows
    subst hx
    exact (Tryz.strings_Join_none _ 0 sep w).mono fun e w' ⟨he,hw⟩=>⟨he,by rw [hw];exact Below.refl _ _⟩
   |sl _ _ _ b o sz cap us hc hm hss hU hw h1' hvs hf hg =>
    subst hrows
    have hlen2:(Ik xs).length=xs.length:=by simp [Ik]
    by_cases hx:xs=[]
    . subst hx
      exact (Tryz.strings_Join_none _ cap sep w).mono fun e w' ⟨he,hw⟩=>⟨he,by rw [hw];exact Below.refl _ _⟩
    have h0:0<xs.length:=List.length_pos_iff.2 hx
    have hone:∀ i (h:i<xs.length),sz=1/\us i 0=.string ⟨⟨xs[i]⟩⟩:=by
     intro i hi
     have h2:=hss i (by omega)
     have h3:(Ik xs)[i]'(by omega)=[.lit (.string ⟨⟨xs[i]⟩⟩)]:=by simp [Ik]
     rw [h3] at h2
     have hsz:sz=1:=h2.symm
     refine⟨hsz,?_⟩
     have h4:=hvs i (by omega) 0 (by rw [h3];simp)
     simp only [h3,Ĕ] at h4
     revert h4
     generalize us i 0=z
     intro h4
     cases h4 with
     |lit _ _=>rfl
    obtain⟨rfl,_⟩:=hone 0 h0
    have hj:=Tryz.strings_Join b o cap (xs.map fun x=>⟨⟨x⟩⟩) sep w (fun j x hj=>by
     rw [â] at hj
     cases hxj:xs[j]? with
     |none=>rw [hxj] at hj;cases hj
     |some y =>
      rw [hxj] at hj
      obtain⟨hjl,hy⟩:=List.getElem?_eq_some_iff.1 hxj
      have h5:=hw j 0 (by omega) (by omega)
      rw [(hone j hjl).2,hy] at h5
      simp only [Nat.mul_one,Nat.add_zero] at h5
      rw [h5]
      simpa using hj) (hs.ub b _ (hU 0 0 (by omega) (by omega))) (by rw [Ó];exact hN) (by rw [Ó];omega) (by
     rw [ġ]
     have e:xs.map ((fun x:Â=>x.data.toList)∘fun x=>(⟨⟨x⟩⟩:Â))=xs:=by simp [Function.comp_def]
     rw [e];exact hlen)
    rw [ġ] at hj
    have e:xs.map ((fun x:Â=>x.data.toList)∘fun x=>(⟨⟨x⟩⟩:Â))=xs:=by simp [Function.comp_def]
    rw [e,Ó] at hj
    rw [hlen2]
    exact hj
 refine key.mono fun e w' ⟨he,hb⟩=>?_
 exact⟨_,_,{ G with U:=G.U },⟨rfl,rfl⟩,⟨_,he,.lit _ _,trivial⟩,hs.below hb (fun _ _ h=>.inl h) (fun _ _ h=>h),Ext.ofBelow hs hb (fun _ _ h=>.inl h) (fun _ _ h=>h)⟩
theorem ZD (n:Int)(r:Â)(h:NJ n=some r):CZ Tryz.prog 112 [iP n] (tP r):=by
 unfold NJ at h
 split at h
 . rename_i h0
   obtain rfl:=Ac h
   exact Ahw n h0.1 h0.2
 . cases h
theorem ZC (l:List Â)(sep r:Â)(h:NI l sep=some r):CZ Tryz.prog 115 [hP l BA,tP sep] (tP r):=by
 unfold NI at h
 split at h
 . rename_i h0
   obtain rfl:=Ac h
   have hj:=Ahv (l.map (·.data.toList)) .shared sep (by rw [Ó];exact h0.1) h0.2
   have e:Ik (l.map (·.data.toList))=l.map BA:=by unfold Ik;rw [ġ];rfl
   rw [e] at hj
   exact hj
 . cases h
end Go.Proofs.YtkcfmlfkfagejaaGreatDoor
namespace Go.Proofs.YtkcfmlfkfagejaaGreatDoor
open Go.RowKit Go.Q Go.Vl Go.Sp
set_option maxRecDepth 100000
set_option linter.unusedSimpArgs false
set_option maxHeartbeats 4000000
set_option linter.unusedVariables false
theorem Ii (c:Int)(r:Int)(h:EM c=some r):CZ Tryz.prog 165 [uP c] (iP r):=by
 unfold EM at h
 refine vP ⟨[0,2,3,6,19,26],[]⟩ Tryz.func165 follows fun Q hQ=>?_
 refine cD 7 [] h (fun hc10 h=>?_) fun hc10 h=>?_
 cases h
 exact rt 2 [] hQ
 refine mE 0 [] h (fun v6=>⟨[(0,uP c),(2,iP 0),(6,bP v6)],[]⟩) ?_ fun y e hJ=>?_
 rintro v6 h
 refine mE 0 [] h (fun v61=>⟨[(0,uP c),(2,iP 0),(6,bP v61)],[]⟩) ?_ fun y1 e1 hJ1=>?_
 rintro v61 h
 refine cD 0 [] h (fun hc6 h=>?_) fun hc6 h=>?_
 cases h
 exact rt 2 [] hQ
 refine mE 0 [] h (fun v19=>⟨[(0,uP c),(2,iP 0),(19,bP v19)],[]⟩) ?_ fun y2 e2 hJ2=>?_
 rintro v19 h
 refine cD 0 [] h (fun hc4 h=>?_) fun hc4 h=>?_
 cases h
 exact rt 2 [] hQ
 refine mE 1 [] h (fun v26=>⟨[(2,iP 0),(26,bP v26)],[]⟩) ?_ fun y3 e3 hJ3=>?_
 rintro v26 h
 refine cD 0 [] h (fun hc h=>?_) fun hc h=>?_
 cases h
 exact rt 2 [] hQ
 cases h
 exact rt 2 [] hQ
 refine cD 0 [] e3 (fun hc3 e3=>?_) fun hc3 e3=>?_
 exact mJ 0 [] (hJ3 _ (oj e3))
 refine cD 1 [] e3 (fun hc2 e3=>?_) fun hc2 e3=>?_
 exact mJ 0 [] (hJ3 _ (oj e3))
 refine cD 1 [] e3 (fun hc1 e3=>?_) fun hc1 e3=>?_
 exact mJ 0 [] (hJ3 _ (oj e3))
 exact mJ 1 [] (hJ3 _ (oj e3))
 rcases An e2 with⟨hc5,e2⟩|⟨hc5,e2⟩
 exact mJ 1 [(2,fo hc5)] (hJ2 _ (oj e2))
 exact mJ 1 [(2,fo hc5)] (hJ2 _ (oj e2))
 refine cD 0 [] e1 (fun hc8 e1=>?_) fun hc8 e1=>?_
 exact mJ 0 [] (hJ1 _ (oj e1))
 refine mE 0 [] e1 (fun v62=>⟨[(0,uP c),(2,iP 0),(6,bP v62)],[]⟩) ?_ fun y4 e4 hJ4=>?_
 rintro v62 e1
 exact mJ 0 [] (hJ1 _ (oj e1))
 rcases An e4 with⟨hc7,e4⟩|⟨hc7,e4⟩
 exact mJ 1 [(2,fo hc7)] (hJ4 _ (oj e4))
 exact mJ 1 [(2,fo hc7)] (hJ4 _ (oj e4))
 rcases An e with⟨hc9,e⟩|⟨hc9,e⟩
 exact mJ 1 [(2,fo hc9)] (hJ _ (oj e))
 exact mJ 1 [(2,fo hc9)] (hJ _ (oj e))
theorem I8 (n:Nat)(r_:Aq)(r:(Unit×Aq))(h:Ek n r_=some r):CV Tryz.prog 143 [] [tP r_.src,iP r_.at_,oT r_.out] (.ret (.tup [])) [tP r.2.src,iP r.2.at_,oT r.2.out]:=by
 unfold Ek at h
 refine vM ⟨[0,2,3,13,23,37,56],[(0,[9999,0,0,1,2,3,4,5,6,7,8,9]),(1,[9999,0,0,1,2,3,4,5,6,7,8,9]),(3,[9999,0,0,1,2,3,4,5,6,7,8,9,10]),(5,[9999,0,0,1,2,3,4,5,6,7,8,9,10])]⟩ Tryz.func143 follows fun Q hQ=>?_
 refine mI 0 [] h (fun r_1=>⟨[],[[tP r_.src,iP r_1,oT r_.out]]⟩) ?_ fun y e h hJ=>?_
 rintro r_1 h
 cases h
 exact rt 0 [] hQ
 refine lF 1 [] (A:=Int) (fun n r_2=>AV n r_ r_2) (fun r_2=>⟨[(0,.ptr 0 0)],[[tP r_.src,iP r_2,oT r_.out]]⟩) r_.at_ e (fun _=>rfl) ?_
 rintro n r_2 e ih
 replace e:=(AV.eq_2 ..).symm.trans e
 refine cD 1 [] e (fun hc4 e=>?_) fun hc4 e=>?_
 obtain⟨c,hc,e⟩:=Ad e
 refine cD 4 [(8,fb hc)] e (fun hc3 e=>?_) fun hc3 e=>?_
 obtain⟨s,hs,e⟩:=Ad e
 obtain⟨n_,hn_,e⟩:=Ad e
 refine cD 2 [(8,fu hs),(0,fk (XB _ _ _ hn_))] e (fun hc1 e=>?_) fun hc1 e=>?_
 exact mJ 2 [] (ih _ e)
 exact mJ 1 [] (ih _ e)
 obtain⟨c1,hc11,e⟩:=Ad e
 refine cD 1 [(1,fk (Ii _ _ hc11))] e (fun hc2 e=>?_) fun hc2 e=>?_
 exact mJ 1 [] (ih _ e)
 cases e
 cases h
 exact rt 0 [] hQ
 exact mJ 1 [] (hJ _ (oj e))
theorem I7 (n:Nat)(r_:Aq)(least:Int)(r:Int)(h:Ej n r_ least=some r):CV Tryz.prog 194 [iP least] [tP r_.src,iP r_.at_,oT r_.out] (.ret (iP r)) [tP r_.src,iP r_.at_,oT r_.out]:=by
 unfold Ej at h
 refine vM ⟨[0,1,4,5,27],[]⟩ Tryz.func194 follows fun Q hQ=>?_
 refine mE 2 [] h (fun to_=>⟨[(4,iP 0),(5,iP to_)],[[tP r_.src,iP r_.at_,oT r_.out]]⟩) ?_ fun y e hJ=>?_
 rintro to_ h
 cases h
 exact rt 1 [] hQ
 refine lF 1 [] (A:=Int) (fun n to_1=>BM n r_ least to_1) (fun to_1=>⟨[(0,.ptr 0 0),(1,iP least),(4,iP 0),(5,iP to_1)],[[tP r_.src,iP r_.at_,oT r_.out]]⟩) r_.at_ e (fun _=>rfl) ?_
 rintro n to_1 e ih
 replace e:=(BM.eq_2 ..).symm.trans e
 refine mE 0 [] e (fun v27=>⟨[(0,.ptr 0 0),(1,iP least),(4,iP 0),(5,iP to_1),(27,bP v27)],[[tP r_.src,iP r_.at_,oT r_.out]]⟩) ?_ fun y1 e1 hJ1=>?_
 rintro v27 e
 refine cD 0 [] e (fun hc e=>?_) fun hc e=>?_
 exact mJ 2 [] (ih _ e)
 exact mJ 1 [] (hJ _ (oj e))
 rcases An e1 with⟨hc1,e1⟩|⟨hc1,e1⟩
 obtain⟨c,hc2,e1⟩:=Ad e1
 obtain⟨c1,hc11,e1⟩:=Ad e1
 exact mJ 1 [(7,fo hc1),(5,fb hc2),(0,fk (Ii _ _ hc11))] (hJ1 _ (oj e1))
 exact mJ 1 [(7,fo hc1)] (hJ1 _ (oj e1))
theorem Dp (r_:Aq)(kind:Int)(to_:Int)(s:Â)(n_:Int)(r:(Int×Aq))(h:BK r_ kind to_ s n_=some r):CV Tryz.prog 145 [iP kind,iP to_,tP s,iP n_] [tP r_.src,iP r_.at_,oT r_.out] (.ret (iP r.1)) [tP r.2.src,iP r.2.at_,oT r.2.out]:=by
 unfold BK at h
 refine vM ⟨[0,1,2,3,4,10],[(1,[9999,0,0,1,2,3,4,5,6,7,8,9,10,11,12,13,14,15,16,17])]⟩ Tryz.func145 follows fun Q hQ=>?_
 obtain⟨l,hl,h⟩:=Ad h
 obtain⟨l1,hl1,h⟩:=Ad h
 cases h
 exact rt 4 [(14,fB Bh hl),(0,fa Bh hl1)] hQ
theorem MV (n:Nat)(r_:Aq)(r:((Bool×Int)×Aq))(h:En n r_=some r):CV Tryz.prog 166 [] [tP r_.src,iP r_.at_,oT r_.out] (.ret (.tup [bP r.1.1,iP r.1.2])) [tP r.2.src,iP r.2.at_,oT r.2.out]:=by
 unfold En at h
 refine vM ⟨[0,2,3,4,15,24],[(1,[9999,0,0,1,2,3,4,5,6,7,8,9,10]),(6,[9999,1,0,0,1,2,3,4,5,6,7,8,9,10,11,12,13,14])]⟩ Tryz.func166 follows fun Q hQ=>?_
 obtain⟨c,hc,h⟩:=Ad h
 obtain⟨c1,hc1,h⟩:=Ad h
 refine cD 2 [(10,fb hc),(0,fk (Ii _ _ hc1))] h (fun hc3 h=>?_) fun hc3 h=>?_
 cases h
 exact rt 1 [] hQ
 obtain⟨to_,hto_,h⟩:=Ad h
 refine cD 2 [(1,fm (I7 _ _ _ _ hto_))] h (fun hc2 h=>?_) fun hc2 h=>?_
 cases h
 exact rt 1 [] hQ
 obtain⟨s,hs,h⟩:=Ad h
 obtain⟨p,hp,h⟩:=Ad h
 cases h
 exact rt 1 [(11,fu hs),(0,fm (Dp _ _ _ _ _ _ hp))] hQ
theorem Lr (n:Nat)(r_:Aq)(r:((Bool×Int)×Aq))(h:D3 n r_=some r):CV Tryz.prog 167 [] [tP r_.src,iP r_.at_,oT r_.out] (.ret (.tup [bP r.1.1,iP r.1.2])) [tP r.2.src,iP r.2.at_,oT r.2.out]:=by
 unfold D3 at h
 refine vM ⟨[0,2,3,4,5,6,7,18,52],[(1,[9999,0,0,1,2,3,4,5,6,7,8,9,10]),(4,[9999,0,0,1,2,3,4,5,6,7,8,9,10])]⟩ Tryz.func167 follows fun Q hQ=>?_
 obtain⟨c,hc,h⟩:=Ad h
 obtain⟨c1,hc1,h⟩:=Ad h
 refine cD 2 [(10,fb hc),(0,fk (Ii _ _ hc1))] h (fun hc6 h=>?_) fun hc6 h=>?_
 cases h
 exact rt 1 [] hQ
 obtain⟨to_,hto_,h⟩:=Ad h
 obtain⟨s,hs,h⟩:=Ad h
 refine wl 2 [(1,fm (I7 _ _ _ _ hto_)),(10,fu hs)] ?_
 obtain⟨_,hf,h⟩:=Ad h
 replace h:=An h
 rcases h with⟨hc2,h⟩|⟨hc2,h⟩
 cases h
 exact rt 4 [(1,fk (ZE _ hf hc2))] hQ
 refine mE 1 [(1,fk (Ade _ hf hc2))] h (fun (n_,v52)=>⟨[(0,.ptr 0 0),(2,bP false),(3,iP 0),(4,iP to_),(6,iP n_),(52,bP v52)],[[tP r_.src,iP r_.at_,oT r_.out]]⟩) ?_ fun y e hJ=>?_
 rintro⟨n_,v52⟩ h
 refine cD 0 [] h (fun hc3 h=>?_) fun hc3 h=>?_
 cases h
 exact rt 1 [] hQ
 obtain⟨p,hp,h⟩:=Ad h
 cases h
 exact rt 1 [(3,fm (Dp _ _ _ _ _ _ hp))] hQ
 rcases An e with⟨hc4,e⟩|⟨hc4,e⟩
 exact mJ 1 [(7,fo hc4)] (hJ _ (oj e))
 rcases An e with⟨hc5,e⟩|⟨hc5,e⟩
 obtain⟨c2,hc21,e⟩:=Ad e
 exact mJ 1 [(7,fo hc4),(3,fo hc5),(1,fb hc21)] (hJ _ (oj e))
 exact mJ 1 [(7,fo hc4),(3,fo hc5)] (hJ _ (oj e))
theorem MS (n:Nat)(r_:Aq)(r:((Bool×Int)×Aq))(h:Ei n r_=some r):CV Tryz.prog 168 [] [tP r_.src,iP r_.at_,oT r_.out] (.ret (.tup [bP r.1.1,iP r.1.2])) [tP r.2.src,iP r.2.at_,oT r.2.out]:=by
 unfold Ei at h
 refine vM ⟨[0,2,3,4,5,6,7,17,25,34,45,54,65,74,80],[(1,[9999,0,0,1,2,3,4,5,6,7,8,9])]⟩ Tryz.func168 follows fun Q hQ=>?_
 obtain⟨c,hc,h⟩:=Ad h
 refine cD 2 [(10,fb hc)] h (fun hc11 h=>?_) fun hc11 h=>?_
 cases h
 exact rt 1 [] hQ
 refine mI 2 [] h (fun _=>⟨[(2,bP false),(3,iP 0)],[[tP r_.src,iP r_.at_,oT r_.out]]⟩) ?_ fun y e h hJ=>?_
 rintro _ h
 cases h
 exact rt 1 [] hQ
 refine lF 1 [] (A:=((List Int)×Int)) (fun n (b,k)=>AF n r_ b k) (fun (b,k)=>⟨[(0,.ptr 0 0),(2,bP false),(3,iP 0),(4,oP b J0),(5,iP k)],[[tP r_.src,iP r_.at_,oT r_.out]]⟩) ([],(À (r_.at_+1))) e (fun _=>rfl) ?_
 rintro n ⟨b,k⟩ e ih
 replace e:=(AF.eq_2 ..).symm.trans e
 refine cD 1 [(1,fl Pc b)] e (fun hc10 e=>?_) fun hc10 e=>?_
 refine cD 2 [] e (fun hc9 e=>?_) fun hc9 e=>?_
 cases e
 cases h
 exact rt 1 [] hQ
 obtain⟨c1,hc1,e⟩:=Ad e
 refine cD 3 [(5,fb hc1)] e (fun hc8 e=>?_) fun hc8 e=>?_
 obtain⟨p,hp,e⟩:=Ad e
 cases e
 cases h
 exact rt 1 [(4,fg Pc (fun _=>rfl) b),(0,fm (Dp _ _ _ _ _ _ hp))] hQ
 refine cD 1 [] e (fun hc7 e=>?_) fun hc7 e=>?_
 refine mE 3 [] e (fun pair=>⟨[(0,.ptr 0 0),(2,bP false),(3,iP 0),(4,oP b J0),(5,iP (À (k+1))),(7,iP pair)],[[tP r_.src,iP r_.at_,oT r_.out]]⟩) ?_ fun y1 e1 hJ1=>?_
 rintro pair e
 refine cD 1 [] e (fun hc3 e=>?_) fun hc3 e=>?_
 cases e
 cases h
 exact rt 1 [] hQ
 obtain⟨c2,hc2,e⟩:=Ad e
 obtain⟨l,hl,e⟩:=Ad e
 obtain⟨l1,hl1,e⟩:=Ad e
 exact mJ 2 [(2,fb hc2),(0,fB Pc hl),(0,fa Pc hl1)] (ih (_,_) e)
 refine cD 0 [] e1 (fun hc4 e1=>?_) fun hc4 e1=>?_
 obtain⟨c3,hc31,e1⟩:=Ad e1
 obtain⟨pair1,hpair1,e1⟩:=Ad e1
 exact mJ 1 [(5,fb hc31),(0,fk (XB _ _ _ hpair1))] (hJ1 _ (oj e1))
 exact mJ 0 [] (hJ1 _ (oj e1))
 refine mE 0 [] e (fun v80=>⟨[(0,.ptr 0 0),(2,bP false),(3,iP 0),(4,oP b J0),(5,iP k),(6,uP c1),(80,bP v80)],[[tP r_.src,iP r_.at_,oT r_.out]]⟩) ?_ fun y2 e2 hJ2=>?_
 rintro v80 e
 refine cD 0 [] e (fun hc5 e=>?_) fun hc5 e=>?_
 cases e
 cases h
 exact rt 1 [] hQ
 obtain⟨l2,hl2,e⟩:=Ad e
 obtain⟨l3,hl3,e⟩:=Ad e
 exact mJ 2 [(2,fB Pc hl2),(0,fa Pc hl3)] (ih (_,_) e)
 rcases An e2 with⟨hc6,e2⟩|⟨hc6,e2⟩
 exact mJ 1 [(2,fo hc6)] (hJ2 _ (oj e2))
 exact mJ 1 [(2,fo hc6)] (hJ2 _ (oj e2))
 exact mJ 1 [] (hJ _ (oj e))
theorem MT (n:Nat)(r_:Aq)(r:((Bool×Int)×Aq))(h:El n r_=some r):CV Tryz.prog 169 [] [tP r_.src,iP r_.at_,oT r_.out] (.ret (.tup [bP r.1.1,iP r.1.2])) [tP r.2.src,iP r.2.at_,oT r.2.out]:=by
 unfold El at h
 refine vM ⟨[0,2,3,4,6,16,17,18,19,24,37],[(1,[9999,0,0,1,2,3,4,5,6,7,8,9]),(10,[9999,1,0,0,1,2,3,4,5,6,7,8,9,10])]⟩ Tryz.func169 follows fun Q hQ=>?_
 obtain⟨s,hs,h⟩:=Ad h
 obtain⟨f,hf,h⟩:=Ad h
 refine mI 3 [(10,fu hs),(1,fk (Wt _ _ hf)),(0,fl Bv f)] h (fun _=>⟨[(0,.ptr 0 0),(2,bP false),(3,iP 0),(4,tP s)],[[tP r_.src,iP r_.at_,oT r_.out]]⟩) ?_ fun y e h hJ=>?_
 rintro _ h
 obtain⟨s1,hs1,h⟩:=Ad h
 obtain⟨c,hc,h⟩:=Ad h
 refine cD 1 [(1,fu hs1),(0,fk (Adc _ _ _ hc))] h (fun hc1 h=>?_) fun hc1 h=>?_
 cases h
 exact rt 1 [] hQ
 obtain⟨p,hp,h⟩:=Ad h
 cases h
 exact rt 1 [(7,fu hs1),(0,fm (Dp _ _ _ _ _ _ hp))] hQ
 refine lF 1 [] (A:=Int) (fun n v18=>Ct n f s r_ v18) (fun v18=>⟨[(0,.ptr 0 0),(2,bP false),(3,iP 0),(4,tP s),(16,hS f),(17,iP (f.length:Int)),(18,iP v18)],[[tP r_.src,iP r_.at_,oT r_.out]]⟩) 0 e (fun _=>rfl) ?_
 rintro n v18 e ih
 replace e:=(Ct.eq_2 ..).symm.trans e
 refine cD 1 [] e (fun hc3 e=>?_) fun hc3 e=>?_
 obtain⟨x,hx,e⟩:=Ad e
 obtain⟨h_,hh_,e⟩:=Ad e
 refine cD 3 [(0,fi Bv hx),(4,fk (Adb _ _ _ hh_))] e (fun hc2 e=>?_) fun hc2 e=>?_
 obtain⟨p1,hp1,e⟩:=Ad e
 cases e
 cases h
 exact rt 1 [(7,fm (Dp _ _ _ _ _ _ hp1))] hQ
 exact mJ 1 [] (ih _ e)
 exact mJ 1 [] (hJ _ (oj e))
theorem MU (n:Nat)(r_:Aq)(r:(Int×Aq))(h:Em n r_=some r):CV Tryz.prog 144 [] [tP r_.src,iP r_.at_,oT r_.out] (.ret (iP r.1)) [tP r.2.src,iP r.2.at_,oT r.2.out]:=by
 unfold Em at h
 refine vM ⟨[0,2,4,5,6,7,8,9,17],[]⟩ Tryz.func144 follows fun Q hQ=>?_
 refine mI 2 [] h (fun (r_1,r_2,r_3)=>⟨[(2,iP 0)],[[tP r_1,iP r_2,oT r_3]]⟩) ?_ fun y e h hJ=>?_
 rintro⟨r_1,r_2,r_3⟩ h
 cases h
 exact rt 1 [] hQ
 refine lF 1 [] (A:=(Int×ByteArray×Int×(List Ab))) (fun n (v8,r_4,r_5,r_6)=>A1 n v8 r_4 r_5 r_6) (fun (v8,r_4,r_5,r_6)=>⟨[(0,.ptr 0 0),(2,iP 0),(7,.agg [.fno true 166 [],.fno true 167 [],.fno true 168 [],.fno true 169 []]),(8,iP v8)],[[tP r_4,iP r_5,oT r_6]]⟩) (0,r_.src,r_.at_,r_.out) e (fun _=>rfl) ?_
 rintro n ⟨v8,r_4,r_5,r_6⟩ e ih
 replace e:=(A1.eq_2 ..).symm.trans e
 replace e:=An e
 rcases e with⟨hc7,e⟩|⟨hc7,e⟩
 obtain rfl:=Mb hc7
 obtain⟨n_1,hn_1,e⟩:=Ad e
 refine cD 6 [(5,fm (MV _ _ _ hn_1))] e (fun hc8 e=>?_) fun hc8 e=>?_
 cases e
 cases h
 exact rt 1 [] hQ
 exact mJ 1 [] (ih (_,_,_,_) e)
 replace e:=An e
 rcases e with⟨hc5,e⟩|⟨hc5,e⟩
 obtain rfl:=Mb hc5
 obtain⟨n_,hn_,e⟩:=Ad e
 refine cD 6 [(5,fm (Lr _ _ _ hn_))] e (fun hc6 e=>?_) fun hc6 e=>?_
 cases e
 cases h
 exact rt 1 [] hQ
 exact mJ 1 [] (ih (_,_,_,_) e)
 replace e:=An e
 rcases e with⟨hc3,e⟩|⟨hc3,e⟩
 obtain rfl:=Mb hc3
 obtain⟨t,ht,e⟩:=Ad e
 refine cD 6 [(5,fm (MS _ _ _ ht))] e (fun hc4 e=>?_) fun hc4 e=>?_
 cases e
 cases h
 exact rt 1 [] hQ
 exact mJ 1 [] (ih (_,_,_,_) e)
 replace e:=An e
 rcases e with⟨hc1,e⟩|⟨hc1,e⟩
 obtain rfl:=Mb hc1
 obtain⟨s,hs,e⟩:=Ad e
 refine cD 6 [(5,fm (MT _ _ _ hs))] e (fun hc2 e=>?_) fun hc2 e=>?_
 cases e
 cases h
 exact rt 1 [] hQ
 exact mJ 1 [] (ih (_,_,_,_) e)
 replace e:=An e
 rcases e with⟨hc,e⟩|⟨hc,e⟩
 obtain rfl:=Mb hc
 exact mJ 3 [] (hJ _ (oj e))
 cases e
theorem RH (n:Nat)(src:Â)(r:((List Ab)×Am))(h:Iq n src=some r):CZ Tryz.prog 116 [tP src] (.tup [hT r.1,.agg [iP r.2.At,iP r.2.E]]):=by
 unfold Iq at h
 refine vP ⟨[0,2,3,4,5,8,21,27],[(9,[9999,0,0,1,2,3,4,5,6,7])]⟩ Tryz.func116 follows fun Q hQ=>?_
 refine cD 2 [] h (fun hc2 h=>?_) fun hc2 h=>?_
 cases h
 exact rt 1 [] hQ
 obtain⟨s,hs,h⟩:=Ad h
 refine mI 2 [(5,fm (I8 _ _ _ hs))] h (fun (q,q1,q2)=>⟨[(0,tP src),(2,.sl [] .own),(3,.ptr 0 0),(4,.ptr 1 0)],[[iP 0,iP 0],[tP q,iP q1,oT q2]]⟩) ?_ fun y e h hJ=>?_
 rintro⟨q,q1,q2⟩ h
 obtain⟨p,hp,h⟩:=Ad h
 cases h
 exact rt 2 [(3,fm (Dp _ _ _ _ _ _ hp))] hQ
 refine lF 1 [] (A:=(ByteArray×Int×(List Ab))) (fun n (q3,q4,q5)=>C7 n src q3 q4 q5) (fun (q3,q4,q5)=>⟨[(0,tP src),(2,.sl [] .own),(3,.ptr 0 0),(4,.ptr 1 0)],[[iP 0,iP 0],[tP q3,iP q4,oT q5]]⟩) (s.2.src,s.2.at_,s.2.out) e (fun _=>rfl) ?_
 rintro n ⟨q3,q4,q5⟩ e ih
 replace e:=(C7.eq_2 ..).symm.trans e
 refine cD 1 [] e (fun hc1 e=>?_) fun hc1 e=>?_
 obtain⟨e1,he1,e⟩:=Ad e
 refine cD 3 [(1,fm (MU _ _ _ he1))] e (fun hc e=>?_) fun hc e=>?_
 cases e
 cases h
 exact rt 1 [] hQ
 obtain⟨s1,hs1,e⟩:=Ad e
 exact mJ 1 [(1,fm (I8 _ _ _ hs1))] (ih (_,_,_) e)
 exact mJ 1 [] (hJ _ (oj e))
theorem U6 (n:Nat)(l:(List Ab))(r:Â)(h:Ky n l=some r):CZ Tryz.prog 66 [hT l] (tP r):=by
 unfold Ky at h
 refine vP ⟨[0,2,3,5,6,7,8,9,13,14,22,30],[(12,[9999,0,0,3,4,1,2,5,6,7,8,9,10])]⟩ Tryz.func66 follows fun Q hQ=>?_
 refine mE 3 [(3,fl Bh l)] h (fun words=>⟨[(2,tP ⟨#[]⟩),(3,oS words)],[]⟩) ?_ fun y e hJ=>?_
 rintro words h
 obtain⟨j,hj,h⟩:=Ad h
 cases h
 exact rt 1 [(1,fk (ZC _ _ _ hj))] hQ
 refine lF 1 [] (A:=((List Â)×Int)) (fun n (words1,v8)=>Dg n l words1 v8) (fun (words1,v8)=>⟨[(2,tP ⟨#[]⟩),(3,oS words1),(6,hT l),(7,iP (l.length:Int)),(8,iP v8)],[]⟩) ([],0) e (fun _=>rfl) ?_
 rintro n ⟨words1,v8⟩ e ih
 replace e:=(Dg.eq_2 ..).symm.trans e
 refine cD 1 [] e (fun hc4 e=>?_) fun hc4 e=>?_
 obtain⟨x,hx,e⟩:=Ad e
 refine mE 5 [(0,fi Bh hx)] e (fun v14=>⟨[(2,tP ⟨#[]⟩),(3,oS words1),(5,.ptr 0 0),(6,hT l),(7,iP (l.length:Int)),(8,iP v8),(13,iP x.Kind),(14,bP v14)],[[iP x.Kind,iP x.At,tP x.S,iP x.N]]⟩) ?_ fun y1 e1 hJ1=>?_
 rintro v14 e
 refine cD 0 [] e (fun hc2 e=>?_) fun hc2 e=>?_
 obtain⟨l1,hl1,e⟩:=Ad e
 obtain⟨l2,hl2,e⟩:=Ad e
 exact mJ 2 [(3,fB Bv hl1),(0,fa Bv hl2)] (ih (_,_) e)
 refine cD 1 [] e (fun hc1 e=>?_) fun hc1 e=>?_
 obtain⟨i,hi,e⟩:=Ad e
 obtain⟨l3,hl3,e⟩:=Ad e
 obtain⟨l4,hl4,e⟩:=Ad e
 exact mJ 2 [(3,fk (ZD _ _ hi)),(0,fB Bv hl3),(0,fa Bv hl4)] (ih (_,_) e)
 refine cD 1 [] e (fun hc e=>?_) fun hc e=>?_
 cases e
 exact mJ 1 [] (ih (_,_) e)
 refine cD 0 [] e1 (fun hc3 e1=>?_) fun hc3 e1=>?_
 exact mJ 0 [] (hJ1 _ (oj e1))
 exact mJ 1 [] (hJ1 _ (oj e1))
 exact mJ 1 [] (hJ _ (oj e))
end Go.Proofs.YtkcfmlfkfagejaaGreatDoor
namespace Go.Proofs.YtkcfmlfkfagejaaGreatDoor
open Go Go.Sp Go.Lx Go.Q
set_option maxRecDepth 100000
theorem JT (c:UInt8):EM (c.toNat:Int)=some (cls c:Int):=by
 have key:∀ k:Fin 256,EM (k.val:Int)=some (cls (UInt8.ofNat k.val):Int):=by decide +kernel
 have:=key ⟨c.toNat,c.toNat_lt⟩
 simp only [UInt8.ofNat_toNat] at this
 exact this
theorem Gf {s:Â}{j:Nat}(h:j<s.size):gb s (j:Int)=some (s[j].toNat:Int):=by
 unfold gb
 rw [Ê ⟨by omega,by omega⟩,Ć,<- getD_at s j h]
theorem Aex (c:UInt8):((cls c:Int) != 2) = !isDigit c:=by
 have:=@OJ c
 unfold cls
 cases h1:isLetter c<;>cases h2:isDigit c<;>cases isBlank c<;>first|rfl|simp_all
theorem Zs (c:UInt8):((cls c:Int) != 3) = !isLetter c:=by
 unfold cls
 cases isLetter c<;>cases isDigit c<;>cases isBlank c<;>rfl
theorem VE {src:Â}{j:Nat}(hj:j<=src.size):NQ src (j:Int) (src.size:Int)=some (src.extract j src.size)/\(src.extract j src.size).data.toList=(bl src).drop j:=by
 refine⟨?_,?_⟩
 . unfold NQ
   rw [Ê (by omega)];rfl
 . show bl (src.extract j src.size)=_
   rw [Xz,List.take_of_length_le (by rw [Ā,Fy];exact Õ _)]
theorem O0 {out:List Ab}(hl:out.length<=1000000)(src:Â)(p k q:Int)(s:Â)(v:Int):BK ⟨src,p,out⟩ k q s v=some (0,⟨src,q,out++[⟨k,p,s,v⟩]⟩):=by
 unfold BK B4
 rw [Á,Ê (by simp only [Æ,Î];omega)];rfl
theorem Ab0 {src:Â}{p j:Nat}:src.extract p j=⟨⟨((bl src).drop p).take (j-p)⟩⟩:=by
 rw [<- Xz src p j]
theorem QT {src:Â}{a b:Nat}(h1:a<=b)(h2:b<=src.size):NQ src (a:Int) (b:Int)=some (src.extract a b):=by
 unfold NQ
 rw [Ê (by omega)];rfl
theorem Xy (b:List UInt8):Abg (b.map fun c=>(c.toNat:Int))=⟨⟨b⟩⟩:=by
 unfold Abg
 rw [ġ]
 have:((fun n:Int=>UInt8.ofNat n.toNat)∘fun c:UInt8=>(c.toNat:Int))=id:=by funext c;simp
 rw [this,List.map_id]
theorem Abd (c:UInt8):(Lib.indexByte [34,92,110] c = -1/\pair c=0)∨∃ i:Nat,Lib.indexByte [34,92,110] c=(i:Int)/\pair c≠0/\gb ⟨#[34,92,10]⟩ (i:Int)=some ((pair c).toNat:Int):=by
 have e:∀ (b:UInt8) (l:List UInt8),Lib.indexByte (b::l) c=if (b == c)=true then 0 else if (Lib.indexByte l c == -1)=true then -1 else Lib.indexByte l c+1:=fun _ _=>rfl
 have e0:Lib.indexByte [] c = -1:=rfl
 unfold pair
 by_cases h1:c=34
 . subst h1;exact .inr ⟨0,rfl,by decide,by decide⟩
 . by_cases h2:c=92
   . subst h2;exact .inr ⟨1,rfl,by decide,by decide⟩
   . by_cases h3:c=110
     . subst h3;exact .inr ⟨2,rfl,by decide,by decide⟩
     . left
       have n1:((34:UInt8) == c)=false:=beq_eq_false_iff_ne.2 fun h=>h1 h.symm
       have n2:((92:UInt8) == c)=false:=beq_eq_false_iff_ne.2 fun h=>h2 h.symm
       have n3:((110:UInt8) == c)=false:=beq_eq_false_iff_ne.2 fun h=>h3 h.symm
       have i3:Lib.indexByte [110] c = -1:=by rw [e,e0,n3];rfl
       have i2:Lib.indexByte [92,110] c = -1:=by rw [e,i3,n2];rfl
       exact⟨by rw [e,i2,n1];rfl,by simp [h1,h2,h3]⟩
theorem UK {b r:List UInt8}{c d:UInt8}(h:b.length<=200)(h34:¬ c=34)(h92:c=92):text b (c::d::r)=if pair d=0 then .bad 28 else text (b++[pair d]) r:=by
 conv=>lhs;unfold text
 rw [È (by omega),È h34,Ê h92]
theorem UJ {b r:List UInt8}{c:UInt8}(h:b.length<=200)(h34:¬ c=34)(h92:¬ c=92):text b (c::r)=if c<32∨126<c then .bad 28 else text (b++[c]) r:=by
 conv=>lhs;unfold text
 rw [È (by omega),È h34,È h92]
def Gm (r:List UInt8):Option Out:=match sign r with|.bad _=>none|x=>some x
theorem Yd (c:UInt8):∀ (l:List UInt8),decide (0<=Lib.indexByte l c)=decide (c∈l)
 | []=>rfl
 |b::l=>by
  have ih:=Yd c l
  have hge:=Lib.indexByte_ge l c
  have e:Lib.indexByte (b::l) c=if (b == c)=true then 0 else if (Lib.indexByte l c == -1)=true then -1 else Lib.indexByte l c+1:=rfl
  rw [e]
  by_cases hb:b=c
  . subst hb;simp
  . rw [È (by simpa using hb)]
    have hm:(c∈b::l)↔c∈l:=⟨fun h=>(List.mem_cons.1 h).resolve_left fun e=>hb e.symm,ù _⟩
    rw [decide_eq_decide] at ih ⊢
    rw [hm,<- ih]
    by_cases hn:Lib.indexByte l c = -1
    . rw [Ê (by rw [hn];rfl),hn]
    . rw [È (by simpa using hn)];omega
theorem Aaf {r l:List UInt8}(h:l.length=2):Lib.hasPrefix r l=decide (r.take 2=l):=by
 unfold Lib.hasPrefix
 rw [Bool.eq_iff_iff,List.isPrefixOf_iff_prefix,List.prefix_iff_eq_take,h,Í]
 exact⟨fun e=>e.symm,fun e=>e.symm⟩
section
variable (src:Â) (p:Nat) (out:List Ab) (hs:src.size<=1000000)
include hs
theorem Afe:∀ (m j:Nat),j+m=src.size->p<=j->IX isWord src p j->∃ j':Nat,Ev (fun n=>BM n ⟨src,(p:Int),out⟩ 2 (j:Int)) (j':Int)/\p<=j'/\j'<=src.size/\IX isWord src p j'/\headIs isWord ((bl src).drop j')=false
 |0,j,hj,hp,ha=>by
  obtain rfl:j=src.size:=by omega
  refine⟨src.size,Ev.step (fun n=>BM.eq_2 ..) (Ev.of fun n=>?_),hp,Õ _,ha,Yg src _ (Õ _) fun h=>absurd h (Nat.lt_irrefl _)⟩
  simp only [Ñ (Int.lt_irrefl _),Ä,Á]
 |m+1,j,hj,hp,ha=>by
  have hlt:j<src.size:=by omega
  have hcw:=Acg src[j]
  cases hw:isWord src[j] with
  |true =>
   rw [hw] at hcw
   obtain⟨j',h1,h2⟩:=Afe m (j+1) (by omega) (by omega) (ha.succ hp hlt hw)
   refine⟨j',Ev.step (fun n=>BM.eq_2 ..) ?_,h2⟩
   simp only [Ð (show (j:Int)<src.size by omega),É,Gf hlt,JT,Á,<- hcw,OR (show j<4611686018427387904 by omega)]
   exact h1
  |false =>
   rw [hw] at hcw
   refine⟨j,Ev.step (fun n=>BM.eq_2 ..) (Ev.of fun n=>?_),hp,by omega,ha,Yg src j (by omega) fun _=>hw⟩
   simp only [Ð (show (j:Int)<src.size by omega),É,Gf hlt,JT,Á,<- hcw,Ä]
theorem XK (hp:p<=src.size):∃ j:Nat,Ev (fun n=>Ej n ⟨src,(p:Int),out⟩ 2) (j:Int)/\p<=j/\j<=src.size/\IX isWord src p j/\headIs isWord ((bl src).drop j)=false:=by
 obtain⟨j,h1,h2⟩:=Afe src p out hs (src.size-p) p (by omega) (Õ _) (IX.nil _ _ _)
 exact⟨j,Ev.bind h1 Ev.pure,h2⟩
def Ov (src:Â)(j:Nat):Nat:=src.size-(skip false ((bl src).drop j)).length
def skR (src:Â)(out:List Ab):Int ⊕ (Unit×Aq)->Unit×Aq
 |.inl q=>((),⟨src,q,out⟩)
 |.inr o=>o
theorem ZU:∀ (m j:Nat),src.size-j<=m->j<=src.size->∃ y,Ev (fun n=>AV n ⟨src,(p:Int),out⟩ (j:Int)) y/\skR src out y=((),⟨src,(Ov src j:Int),out⟩)
 |m,j,hm,hj=>by
  by_cases hlt:j<src.size
  rotate_left
  . obtain rfl:j=src.size:=by omega
    refine⟨.inl (src.size:Int),Ev.step (fun n=>AV.eq_2 ..) (Ev.of fun n=>?_),?_⟩
    . simp only [Ñ (Int.lt_irrefl _),Ä]
    . unfold Ov;rw [No];rfl
  have hdr:=Gd src j hlt
  have d1:decide ((j:Int)<src.size)=true:=Ð (by omega)
  obtain⟨m,rfl⟩:∃ m',m=m'+1:=⟨m-1,by omega⟩
  by_cases h35:(src[j].toNat:Int)=35
  . have c35:=(eq_iff src[j] 35).2 h35
    have hR1:skip true ((bl src).drop j)=skip false ((bl src).drop j):=by rw [hdr,Ot c35,Qs (by rw [c35];decide)]
    have hix:=VB ((bl src).drop j)
    have hz0:Lib.indexByte ((bl src).drop j) 10≠0:=by rw [hdr,c35];exact Ag8
    have hge:=Lib.indexByte_ge ((bl src).drop j) 10
    obtain⟨g1,g2⟩:=VE hj
    have e:∀ q:Nat,skip false ((bl src).drop q)=skip false ((bl src).drop j)->j<q->q<=src.size->∃ y,Ev (fun n=>AV n ⟨src,(p:Int),out⟩ (q:Int)) y/\skR src out y=((),⟨src,(Ov src j:Int),out⟩):=by
     intro q h1 h2 h3
     have:=ZU m q (by omega) h3
     unfold Ov at this ⊢
     rwa [h1] at this
    by_cases hzn:Lib.indexByte ((bl src).drop j) 10<0
    . obtain⟨y,h1,h2⟩:=e src.size (by rw [<- hR1,hix.1 hzn,No];rfl) hlt (Õ _)
      refine⟨y,Ev.step (fun n=>AV.eq_2 ..) ?_,h2⟩
      have w1:À ((src.size:Int)-(j:Int))=((src.size-j:Nat):Int):=U2 (by omega) (by omega)
      have w2:À ((j:Int)+((src.size-j:Nat):Int))=(src.size:Int):=U2 (by omega) (by omega)
      simp only [d1,É,Gf hlt,Á,h35,è,g1,Nf,g2,Ð hzn,w1,w2,show (10:Int).toNat.toUInt8=10 from rfl]
      exact h1
    . obtain⟨k,hk⟩:∃ k:Nat,Lib.indexByte ((bl src).drop j) 10=(k:Int):=⟨_,(Int.toNat_of_nonneg (by omega)).symm⟩
      obtain⟨hk1,hk2⟩:=hix.2 k hk
      rw [Ā,Fy] at hk1
      obtain⟨y,h1,h2⟩:=e (j+k) (by rw [<- hR1,hk2,List.drop_drop]) (by omega) (by omega)
      refine⟨y,Ev.step (fun n=>AV.eq_2 ..) ?_,h2⟩
      have w1:À ((j:Int)+(k:Int))=((j+k:Nat):Int):=U2 (by omega) (by omega)
      simp only [d1,É,Gf hlt,Á,h35,è,g1,Nf,g2,hk,Ñ (show ¬ (k:Int)<0 by omega),Ä,w1,show (10:Int).toNat.toUInt8=10 from rfl]
      exact h1
  . have b35:((src[j].toNat:Int) == 35)=false:=by simpa using h35
    cases hb:isBlank src[j] with
    |true =>
     obtain⟨y,h1,h2⟩:=ZU m (j+1) (by omega) (by omega)
     refine⟨y,Ev.step (fun n=>AV.eq_2 ..) ?_,?_⟩
     . simp only [d1,É,Gf hlt,Á,b35,Ä,JT,Zt _ hb,show ((1:Nat):Int) == 1 from rfl,OR (show j<4611686018427387904 by omega)]
       exact h1
     . rw [h2];unfold Ov;rw [hdr,Ou hb]
    |false =>
     refine⟨.inr ((),⟨src,(j:Int),out⟩),Ev.step (fun n=>AV.eq_2 ..) (Ev.of fun n=>?_),?_⟩
     . simp only [d1,É,Gf hlt,Á,b35,Ä,JT,RU _ hb]
     . have e:Ov src j=j:=by
        unfold Ov
        rw [hdr,KJ,hb,È (by simp),È (fun h=>h35 ((eq_iff src[j] 35).1 h)),<- hdr,Ā,Fy];omega
       rw [e];rfl
theorem XL (hp:p<=src.size):Ev (fun n=>Ek n ⟨src,(p:Int),out⟩) ((),⟨src,(Ov src p:Int),out⟩):=by
 obtain⟨y,h1,h2⟩:=ZU src p out hs _ p (Õ _) hp
 refine Ev.bind h1 ?_
 cases y<;>(rw [<- h2];exact Ev.pure)
def N8 (src:Â)(p:Nat)(out:List Ab):Option Out->(Bool×Int)×Aq
 |none=>((false,0),⟨src,(p:Int),out⟩)
 |some (.bad e)=>((true,(e:Int)),⟨src,(p:Int),out⟩)
 |some (.ok k s v t)=>((true,0),⟨src,((src.size-t.length:Nat):Int),out++[⟨(k:Int),(p:Int),⟨⟨s⟩⟩,(v:Int)⟩]⟩)
variable (hl:out.length<=1000000)
include hl
theorem Mp (hp:p<src.size):Ev (fun n=>En n ⟨src,(p:Int),out⟩) (N8 src p out (if isLetter src[p] then some (name ((bl src).drop p)) else none)):=by
 unfold En
 simp only [Gf hp,JT,Á,Zs]
 cases hL:isLetter src[p] with
 |false=>exact Ev.pure
 |true =>
  simp only [à,Ä,ë]
  obtain⟨j,h0,h1,h2,h3,h4⟩:=XK src p out hs (Nat.le_of_lt hp)
  refine Ev.bind h0 ?_
  have hw:=h3.while h1 h4
  have hlen:=N5 src p j h1 h2
  have w1:À ((j:Int)-(p:Int))=((j-p:Nat):Int):=U2 (by omega) (by omega)
  rw [w1]
  by_cases h32:32<j-p
  . have hr:name ((bl src).drop p)=.bad 2:=by unfold name;rw [hw.1,hlen,Ê h32]
    rw [hr,Ð (by omega)];exact Ev.pure
  . have hr:name ((bl src).drop p)=.ok 1 (((bl src).drop p).take (j-p)) 0 ((bl src).drop j):=by unfold name;rw [hw.1,hw.2,hlen,È h32]
    have hq:src.size-((bl src).drop j).length=j:=by rw [Ā,Fy];omega
    rw [hr,Ñ (by omega)]
    simp only [Ä,QT h1 h2,Á,O0 hl,N8,hq,Ab0]
    exact Ev.pure
theorem JH (hp:p<src.size):Ev (fun n=>D3 n ⟨src,(p:Int),out⟩) (N8 src p out (if isDigit src[p] then some (number ((bl src).drop p)) else none)):=by
 unfold D3
 simp only [Gf hp,JT,Á,Aex]
 cases hL:isDigit src[p] with
 |false=>exact Ev.pure
 |true =>
  simp only [à,Ä,ë]
  obtain⟨j,h0,h1,h2,h3,h4⟩:=XK src p out hs (Nat.le_of_lt hp)
  refine Ev.bind h0 ?_
  have hlen:=N5 src p j h1 h2
  have hnw:=Vs hp h1 h2 h3 h4 hL
  obtain⟨x,hxe⟩:∃ x,x=src.extract p j:=⟨_,rfl⟩
  have hbx:bl x=((bl src).drop p).take (j-p):=by rw [hxe,Xz]
  have hxs:x.size=j-p:=by rw [<- Fy,hbx,hlen]
  have hjp:=UR hp h1 h3 h4 (by simp [isWord,hL])
  rw [<- hbx] at hnw
  have hq:src.size-((bl src).drop j).length=j:=by rw [Ā,Fy];omega
  have hfit:Ng x=some ():=by unfold Ng;rw [Ê (by omega)]
  rw [QT h1 h2,Á,<- hxe,hfit,Á]
  unfold O9 LI
  have bad:number ((bl src).drop p)=.bad 27->N8 src p out (some (number ((bl src).drop p)))=((true,27),⟨src,(p:Int),out⟩):=fun h=>by rw [h];rfl
  cases hat:Lib.atoiAll x.data.toList with
  |ok v =>
   have hv:=hnw.2 v hat
   have hx0:0<x.size:=by omega
   have hf:=Abv hbx hx0 hp
   simp only [Ä]
   have good:¬ 15<j-p->¬ (1<j-p/\src[p]=48)->Ev (fun _:Nat=>(BK ⟨src,(p:Int),out⟩ 2 (j:Int) ⟨#[]⟩ v).bind fun p=>some ((true,p.1),p.2)) (N8 src p out (some (number ((bl src).drop p)))):=by
    intro q1 q2
    have hn:=hv.2 q1 q2
    rw [hn.1,O0 hl]
    have e:(v.toNat:Int)=v:=hn.2.symm
    simp only [N8,hq,Á,e]
    exact Ev.pure
   by_cases h15:15<x.size
   . rw [Ð (show (15:Int)<(x.size:Int) by omega),bad (hv.1 (.inl (by omega)))]
     exact Ev.pure
   . rw [Ñ (show ¬ (15:Int)<(x.size:Int) by omega)]
     simp only [Ä]
     by_cases h1s:1<x.size
     . rw [Ð (show (1:Int)<(x.size:Int) by omega)]
       have g:=Gf hx0
       rw [Int.natCast_zero] at g
       simp only [É,g,Á]
       by_cases hz:x[0]=48
       . rw [show ((x[0].toNat:Int) == 48)=true by rw [hz];rfl,bad (hv.1 (.inr ⟨by omega,by rw [<- hf];exact hz⟩))]
         exact Ev.pure
       . rw [show ((x[0].toNat:Int) == 48)=false from beq_eq_false_iff_ne.2 fun h=>hz ((eq_iff _ 48).2 h)]
         exact good (by omega) (fun h=>hz (by rw [hf];exact h.2))
     . rw [Ñ (show ¬ (1:Int)<(x.size:Int) by omega)]
       exact good (by omega) (fun h=>by omega)
  |_ =>
   rw [bad (hnw.1 fun v=>by rw [show bl x=x.data.toList from rfl,hat];simp)]
   exact Ev.pure
def txR (r:Aq):Unit ⊕ ((Bool×Int)×Aq)->(Bool×Int)×Aq
 |.inl _=>((true,2),r)
 |.inr o=>o
theorem ZO:∀ (m:Nat) (b:List UInt8) (k:Nat),src.size-k<=m->k<=src.size->b.length<=201 ->
 ∃ y,Ev (fun n=>AF n ⟨src,(p:Int),out⟩ (b.map fun c=>(c.toNat:Int)) (k:Int)) y/\txR ⟨src,(p:Int),out⟩ y=N8 src p out (some (text b ((bl src).drop k)))
 |m,b,k,hm,hk,hb=>by
  have fin:∀ {y R},Ev (fun n=>AF (n+1) ⟨src,(p:Int),out⟩ (b.map fun c=>(c.toNat:Int)) (k:Int)) y->text b ((bl src).drop k)=R->txR ⟨src,(p:Int),out⟩ y=N8 src p out (some R) ->
   ∃ y,Ev (fun n=>AF n ⟨src,(p:Int),out⟩ (b.map fun c=>(c.toNat:Int)) (k:Int)) y/\txR ⟨src,(p:Int),out⟩ y=N8 src p out (some (text b ((bl src).drop k))):=by
   rintro y R h1 rfl h2
   exact⟨y,Ev.step (fun n=>rfl) h1,h2⟩
  by_cases h200:b.length<=200
  rotate_left
  . refine fin (y:=.inl ()) (R:=.bad 2) (Ev.of fun n=>?_) ?_ rfl
    . rw [AF.eq_2,Ó,Ñ (by omega)];rfl
    . cases (bl src).drop k with
      |nil=>unfold text;rw [Ê (by omega)]
      |cons c r=>unfold text;rw [Ê (by omega)]
  have d1:decide ((b.length:Int)<=200)=true:=Ð (by omega)
  by_cases hlt:k<src.size
  rotate_left
  . obtain rfl:k=src.size:=by omega
    refine fin (y:=.inr ((true,28),⟨src,(p:Int),out⟩)) (R:=.bad 28) (Ev.of fun n=>?_) ?_ rfl
    . rw [AF.eq_2,Ó,d1,Ð (Ġ _)];rfl
    . rw [No];unfold text;rw [È (by omega)]
  have hdr:=Gd src k hlt
  have d2:decide ((src.size:Int)<=(k:Int))=false:=Ñ (by omega)
  have w2:=OR (show k<4611686018427387904 by omega)
  obtain⟨m,rfl⟩:∃ m',m=m'+1:=⟨m-1,by omega⟩
  have app:∀ c:UInt8,B4 2 (b.map fun c=>(c.toNat:Int)) [(c.toNat:Int)]=some ((b++[c]).map fun c=>(c.toNat:Int)):=fun c=>by
   unfold B4
   rw [Ê (by simp only [Ó,Æ,Î];omega),Ě];rfl
  by_cases c34:src[k]=34
  . refine fin (y:=.inr ((true,0),⟨src,((k+1:Nat):Int),out++[⟨3,(p:Int),⟨⟨b⟩⟩,0⟩]⟩)) (R:=.ok 3 b 0 ((bl src).drop (k+1))) (Ev.of fun n=>?_) ?_ ?_
    . rw [AF.eq_2]
      simp only [Ó,d1,d2,É,Ä,Gf hlt,Á,show ((src[k].toNat:Int) == 34)=true by rw [c34];rfl,w2,Xy,O0 hl]
    . rw [hdr];unfold text;rw [È (by omega),Ê c34]
    . simp only [N8,txR]
      rw [Ā,Fy,show src.size-(src.size-(k+1))=k+1 by omega];rfl
  have b1:((src[k].toNat:Int) == 34)=false:=beq_eq_false_iff_ne.2 fun h=>c34 ((eq_iff _ 34).2 h)
  by_cases c92:src[k]=92
  . have b2:((src[k].toNat:Int) == 92)=true:=by rw [c92];rfl
    by_cases hk2:k+1<src.size
    . have hdr2:=Gd src (k+1) hk2
      have d3:decide (((k+1:Nat):Int)<(src.size:Int))=true:=Ð (by omega)
      have w3:=OR (show k+1<4611686018427387904 by omega)
      have hi:Nf ⟨#[34,92,110]⟩ (src[k+1].toNat:Int)=some (Lib.indexByte [34,92,110] src[k+1]):=by
       unfold Nf
       congr 2
       simp
      rcases Abd src[k+1] with⟨hz,hpr⟩|⟨i,hz,hpr,hpi⟩
      . refine fin (y:=.inr ((true,28),⟨src,(p:Int),out⟩)) (R:=.bad 28) (Ev.of fun n=>?_) ?_ rfl
        . rw [AF.eq_2]
          simp only [Ó,d1,d2,É,Ä,Gf hlt,Á,b1,b2,w2,d3,Gf hk2,hi,hz];rfl
        . rw [hdr,hdr2,UK h200 c34 c92,Ê hpr]
      . obtain⟨y,h1,h2⟩:=ZO m (b++[pair src[k+1]]) (k+2) (by omega) (by omega) (by simp only [Ç,Æ,Î];omega)
        refine fin (y:=y) ?_ (by rw [hdr,hdr2,UK h200 c34 c92,È hpr]) h2
        refine Ev.congr h1 fun n=>?_
        rw [AF.eq_2]
        simp only [Ó,d1,d2,É,Ä,Gf hlt,Á,b1,b2,w2,d3,Gf hk2,hi,hz,Ñ (show ¬ (i:Int)<0 by omega),hpi,app,w3]
    . refine fin (y:=.inr ((true,28),⟨src,(p:Int),out⟩)) (R:=.bad 28) (Ev.of fun n=>?_) ?_ rfl
      . rw [AF.eq_2]
        simp only [Ó,d1,d2,É,Ä,Gf hlt,Á,b1,b2,w2,Ñ (show ¬ ((k+1:Nat):Int)<(src.size:Int) by omega)];rfl
      . rw [hdr,show (bl src).drop (k+1)=[] from by rw [show k+1=src.size by omega];exact No src]
        unfold text;rw [È (by omega),È c34,Ê c92]
  have b2:((src[k].toNat:Int) == 92)=false:=beq_eq_false_iff_ne.2 fun h=>c92 ((eq_iff _ 92).2 h)
  have ev:((bif decide ((src[k].toNat:Int)<32) then some true else some (decide (126<(src[k].toNat:Int)))):Option Bool)=some (decide (src[k]<32∨126<src[k])):=by
   have e1:src[k]<32↔(src[k].toNat:Int)<32:=by rw [Ĝ];exact⟨fun h=>by have:(32:UInt8).toNat=32:=rfl;omega,fun h=>by have:(32:UInt8).toNat=32:=rfl;omega⟩
   have e2:126<src[k]↔(126:Int)<(src[k].toNat:Int):=by rw [Ĝ];exact⟨fun h=>by have:(126:UInt8).toNat=126:=rfl;omega,fun h=>by have:(126:UInt8).toNat=126:=rfl;omega⟩
   rw [show decide (src[k]<32∨126<src[k])=decide ((src[k].toNat:Int)<32∨(126:Int)<(src[k].toNat:Int)) from decide_eq_decide.2 (or_congr e1 e2)]
   by_cases q:(src[k].toNat:Int)<32<;>simp [q]
  by_cases ho:src[k]<32∨126<src[k]
  . refine fin (y:=.inr ((true,28),⟨src,(p:Int),out⟩)) (R:=.bad 28) (Ev.of fun n=>?_) ?_ rfl
    . rw [AF.eq_2]
      simp only [Ó,d1,d2,É,Ä,Gf hlt,Á,b1,b2,ev,Ð ho]
    . rw [hdr,UJ h200 c34 c92,Ê ho]
  . obtain⟨y,h1,h2⟩:=ZO m (b++[src[k]]) (k+1) (by omega) (by omega) (by simp only [Ç,Æ,Î];omega)
    refine fin (y:=y) ?_ (by rw [hdr,UJ h200 c34 c92,È ho]) h2
    refine Ev.congr h1 fun n=>?_
    rw [AF.eq_2]
    simp only [Ó,d1,d2,É,Ä,Gf hlt,Á,b1,b2,ev,Ñ ho,app,w2]
theorem PG (hp:p<src.size):Ev (fun n=>Ei n ⟨src,(p:Int),out⟩) (N8 src p out (if src[p]=34 then some (text [] ((bl src).drop (p+1))) else none)):=by
 unfold Ei
 simp only [Gf hp,Á]
 by_cases h34:src[p]=34
 . rw [Ê h34,show ((src[p].toNat:Int) != 34)=false by rw [h34];rfl,OR (show p<4611686018427387904 by omega)]
   obtain⟨y,h1,h2⟩:=ZO src p out hs hl _ [] (p+1) (Õ _) (by omega) (by simp)
   refine Ev.bind h1 ?_
   rw [<- h2]
   cases y<;>exact Ev.pure
 . rw [È h34,show ((src[p].toNat:Int) != 34)=true from bne_iff_ne.2 fun h=>h34 ((eq_iff _ 34).2 h)]
   exact Ev.pure
theorem Aff {x:Â}(hx:bl x=(bl src).drop p):∀ (r:List (List UInt8)) (i:Nat),Lx.long.drop i=r->i<=9 ->
 Ev (fun n=>Ct n (Lx.long.map fun l=>⟨⟨l⟩⟩) x ⟨src,(p:Int),out⟩ (i:Int)) (if ((bl src).drop p).take 2∈r then .inr ((true,0),⟨src,((p+2:Nat):Int),out++[⟨4,(p:Int),⟨⟨((bl src).drop p).take 2⟩⟩,0⟩]⟩) else .inl ())
 | [],i,hr,hi=>by
  have:=LY hr hi
  refine Ev.step (fun n=>Ct.eq_2 ..) (Ev.of fun n=>?_)
  rw [Ó,Ñ (by omega)];rfl
 |l::r,i,hr,hi=>by
  obtain⟨h1,h2⟩:=He hr
  have hm:l∈Lx.long:=ā (by rw [hr];simp)
  have h22:l.length=2:=(show ∀ l∈Lx.long,l.length=2 by decide) l hm
  have h29:i<9:=h2
  have hg:gi (Lx.long.map fun l=>(⟨⟨l⟩⟩:Â)) (i:Int)=some ⟨⟨l⟩⟩:=RM (r:=r.map fun l=>⟨⟨l⟩⟩) (by rw [<- List.map_drop,hr];rfl)
  refine Ev.step (fun n=>Ct.eq_2 ..) ?_
  simp only [Ó,RE h2,É,hg,Á,WR,show x.data.toList=(bl src).drop p from hx,Aaf h22,OR (show i<4611686018427387904 by omega)]
  by_cases hp2:((bl src).drop p).take 2=l
  . have w2:À ((p:Int)+2)=((p+2:Nat):Int):=U2 (by omega) (by
     have:=ü List.length hp2
     rw [List.length_take,Ā,Fy,h22] at this
     omega)
    rw [Ð hp2,Ê (by rw [hp2];simp)]
    simp only [É,O0 hl,Á,w2,hp2]
    exact Ev.pure
  . rw [Ñ hp2]
    have e:(if ((bl src).drop p).take 2∈l::r then Sum.inr ((true,0),(⟨src,((p+2:Nat):Int),out++[⟨4,(p:Int),⟨⟨((bl src).drop p).take 2⟩⟩,0⟩]⟩:Aq)) else Sum.inl ():Unit ⊕ ((Bool×Int)×Aq))=if ((bl src).drop p).take 2∈r then .inr ((true,0),⟨src,((p+2:Nat):Int),out++[⟨4,(p:Int),⟨⟨((bl src).drop p).take 2⟩⟩,0⟩]⟩) else .inl ():=by
     simp only [į,hp2,false_or]
    rw [e]
    exact Aff hx r (i+1) h1 (by omega)
theorem Adj (hp:p<src.size):Ev (fun n=>El n ⟨src,(p:Int),out⟩) (N8 src p out (Gm ((bl src).drop p))):=by
 unfold El
 obtain⟨g1,g2⟩:=VE (src:=src) (j:=p) (by omega)
 obtain⟨X,hX⟩:∃ X,X=src.extract p src.size:=⟨_,rfl⟩
 rw [<- hX] at g1 g2
 have hbX:bl X=(bl src).drop p:=g2
 simp only [g1,Á,show Mr ⟨#[45,62,32,58,61,32,61,61,32,33,61,32,60,61,32,62,61,32,38,38,32,124,124,32,46,46]⟩=some (Lx.long.map fun l=>⟨⟨l⟩⟩) from rfl]
 refine Ev.bind (Aff src p out hs hl hbX Lx.long 0 rfl (by decide)) ?_
 have hdr:=Gd src p hp
 have hlen:((bl src).drop p).length=src.size-p:=by rw [Ā,Fy]
 by_cases hm:((bl src).drop p).take 2∈Lx.long
 . rw [Ê hm]
   have h2l:2<=src.size-p:=by
    have h22:(((bl src).drop p).take 2).length=2:=(show ∀ l∈Lx.long,l.length=2 by decide) _ hm
    rw [List.length_take] at h22;omega
   have hr:Gm ((bl src).drop p)=some (.ok 4 (((bl src).drop p).take 2) 0 ((bl src).drop (p+2))):=by
    unfold Gm sign;rw [Ê hm,List.drop_drop]
   rw [hr]
   simp only [N8,Ā,Fy,show src.size-(src.size-(p+2))=p+2 by omega]
   exact Ev.pure
 . rw [È hm]
   have hXs:1<=X.size:=by rw [<- Fy,hbX,hlen];omega
   have hX1:X.extract 0 1=⟨#[src[p]]⟩:=by
    rw [Ab0,Ą,hbX,hdr];rfl
   have g3:NQ X 0 1=some ⟨#[src[p]]⟩:=by
    have:=QT (src:=X) (a:=0) (b:=1) (by omega) hXs
    rw [hX1] at this
    exact this
   have hh:TA ⟨#[40,41,123,125,91,93,44,59,58,46,43,45,42,47,37,60,62,61,33,38,124,64,63,94,126]⟩ ⟨#[src[p]]⟩=some (decide (src[p]∈Lx.short)):=by
    show some (decide (0<=Lib.indexByte Lx.short src[p]))=_
    rw [Yd]
   simp only [g3,hh,Á]
   by_cases hs1:src[p]∈Lx.short
   . have hr:Gm ((bl src).drop p)=some (.ok 4 [src[p]] 0 ((bl src).drop (p+1))):=by
      unfold Gm sign;rw [È hm,hdr];simp only;rw [Ê hs1]
     rw [hr,Ð hs1]
     simp only [à,Ä,O0 hl,Á,OR (show p<4611686018427387904 by omega),N8,Ā,Fy,show src.size-(src.size-(p+1))=p+1 by omega]
     exact Ev.pure
   . have hr:Gm ((bl src).drop p)=none:=by
      unfold Gm sign;rw [È hm,hdr];simp only;rw [È hs1]
     rw [hr,Ñ hs1]
     exact Ev.pure
def nxO (src:Â)(p:Nat)(out:List Ab)(o:Out):Int×Aq:=((N8 src p out (some o)).1.2,(N8 src p out (some o)).2)
theorem Ad1 (hp:p<src.size):Ev (fun n=>Em n ⟨src,(p:Int),out⟩) (nxO src p out (Lx.tok ((bl src).drop p))):=by
 have hdr:=Gd src p hp
 have t1:=Mp src p out hs hl hp
 have t2:=JH src p out hs hl hp
 have t3:=PG src p out hs hl hp
 have t4:=Adj src p out hs hl hp
 have htok:Lx.tok ((bl src).drop p)=if isLetter src[p] then name ((bl src).drop p) else if isDigit src[p] then number ((bl src).drop p) else if src[p]=34 then text [] ((bl src).drop (p+1)) else sign ((bl src).drop p):=by
  rw [hdr];rfl
 have rd1:∀ o:Out,(N8 src p out (some o)).1.1=true:=fun o=>by cases o<;>rfl
 have rd0:N8 src p out none=((false,0),⟨src,(p:Int),out⟩):=rfl
 unfold Em
 have key:∃ y,Ev (fun n=>A1 n 0 src (p:Int) out) y/\(match y with|.inl (r_1,r_2,r_3)=>(26,Aq.mk r_1 r_2 r_3)|.inr o=>o)=nxO src p out (Lx.tok ((bl src).drop p)):=by
  by_cases h1:isLetter src[p]=true
  . rw [Ê h1] at t1 htok
    refine⟨.inr _,Ev.step (fun n=>A1.eq_2 ..) (Ev.bind t1 ?_),by rw [htok]⟩
    simp only [rd1,É];exact Ev.pure
  rw [È h1] at t1 htok
  have s1:∀ {y},Ev (fun n=>A1 n 1 src (p:Int) out) y->Ev (fun n=>A1 n 0 src (p:Int) out) y:=fun h=>Ev.step (fun n=>A1.eq_2 ..) (Ev.bind t1 (by simp only [rd0,Ä];exact h))
  by_cases h2:isDigit src[p]=true
  . rw [Ê h2] at t2 htok
    refine⟨.inr _,s1 (Ev.step (fun n=>A1.eq_2 ..) (Ev.bind t2 ?_)),by rw [htok]⟩
    simp only [rd1,É];exact Ev.pure
  rw [È h2] at t2 htok
  have s2:∀ {y},Ev (fun n=>A1 n 2 src (p:Int) out) y->Ev (fun n=>A1 n 0 src (p:Int) out) y:=fun h=>s1 (Ev.step (fun n=>A1.eq_2 ..) (Ev.bind t2 (by simp only [rd0,Ä];exact h)))
  by_cases h3:src[p]=34
  . rw [Ê h3] at t3 htok
    refine⟨.inr _,s2 (Ev.step (fun n=>A1.eq_2 ..) (Ev.bind t3 ?_)),by rw [htok]⟩
    simp only [rd1,É];exact Ev.pure
  rw [È h3] at t3 htok
  have s3:∀ {y},Ev (fun n=>A1 n 3 src (p:Int) out) y->Ev (fun n=>A1 n 0 src (p:Int) out) y:=fun h=>s2 (Ev.step (fun n=>A1.eq_2 ..) (Ev.bind t3 (by simp only [rd0,Ä];exact h)))
  cases h4:Gm ((bl src).drop p) with
  |some o =>
   rw [h4] at t4
   have ho:sign ((bl src).drop p)=o:=by
    unfold Gm at h4
    split at h4
    . cases h4
    . exact Ac h4
   refine⟨.inr _,s3 (Ev.step (fun n=>A1.eq_2 ..) (Ev.bind t4 ?_)),by rw [htok,ho]⟩
   simp only [rd1,É];exact Ev.pure
  |none =>
   rw [h4] at t4
   have hb:sign ((bl src).drop p)=.bad 26:=by
    unfold Gm at h4
    split at h4
    . rename_i e he
      unfold sign at he ⊢
      split at he
      . cases he
      . rename_i hn
        rw [È hn]
        split at he
        . rfl
        . split at he
          . cases he
          . rename_i hs;rw [È hs]
    . cases h4
   refine⟨.inl (src,(p:Int),out),s3 (Ev.step (fun n=>A1.eq_2 ..) (Ev.bind t4 ?_)),by rw [htok,hb];rfl⟩
   simp only [rd0,Ä]
   exact Ev.step (fun n=>A1.eq_2 ..) (Ev.of fun n=>rfl)
 obtain⟨y,h1,h2⟩:=key
 refine Ev.bind h1 ?_
 rw [<- h2]
 rcases y with⟨r_1,r_2,r_3⟩|o<;>exact Ev.pure
end
theorem Y9 (src:Â):Ev (fun n=>Iq n src) (FN src):=by
 unfold Iq FN
 by_cases h64:65536<src.size
 . rw [Ê h64,Ð (by omega)];exact Ev.pure
 rw [È h64,Ñ (by omega)]
 have hs:src.size<=1000000:=by omega
 have hp0:=XM src 0
 rw [Ą] at hp0
 have loop:∀ (m p:Nat) (L:List Tok),src.size-p<=m->p<=src.size->L.length<=p->RD src.size (skip false (bl src)) L ((bl src).drop p) ->
  ∃ y,Ev (fun n=>C7 n src src (p:Int) (L.map N4)) y/\((∃ L',y=.inl (src,(src.size:Int),L'.map N4)/\L'.length<=src.size/\Lx.Good src.size (skip false (bl src)) (L'++[⟨5,src.size,[],0⟩]))∨∃ q e:Nat,y=.inr ([],⟨(q:Int),(e:Int)⟩)/\Lx.Bad src.size (skip false (bl src)) q e):=by
  intro m
  induction m with
  |zero =>
   intro p L hm hp hL hso
   obtain rfl:p=src.size:=by omega
   refine⟨_,Ev.step (fun n=>C7.eq_2 ..) (Ev.of fun n=>by rw [Ñ (Int.lt_irrefl _)];rfl),.inl ⟨L,rfl,hL,hso.1 _ ?_⟩⟩
   rw [No];exact .fin
  |succ m ih =>
   intro p L hm hp hL hso
   by_cases hlt:p<src.size
   rotate_left
   . obtain rfl:p=src.size:=by omega
     refine⟨_,Ev.step (fun n=>C7.eq_2 ..) (Ev.of fun n=>by rw [Ñ (Int.lt_irrefl _)];rfl),.inl ⟨L,rfl,hL,hso.1 _ ?_⟩⟩
     rw [No];exact .fin
   have hne:(bl src).drop p≠[]:=by rw [Gd src p hlt];simp
   have hlr:((bl src).drop p).length=src.size-p:=by rw [Ā,Fy]
   have hn:=Ad1 src p (L.map N4) hs (by rw [Ó];omega) hlt
   cases ht:Lx.tok ((bl src).drop p) with
   |bad e =>
    rw [ht] at hn
    have he0:=Th ht
    refine⟨_,Ev.step (fun n=>C7.eq_2 ..) ?_,.inr ⟨p,e,rfl,?_⟩⟩
    . simp only [Ð (show (p:Int)<src.size by omega),É]
      refine Ev.bind hn ?_
      simp only [nxO,N8,show ((e:Int) != 0)=true from bne_iff_ne.2 (by omega),É]
      exact Ev.pure
    . have hb:=hso.2 _ _ (Lx.Bad.here hne ht)
      rwa [hlr,show src.size-(src.size-p)=p by omega] at hb
   |ok k s v t =>
    rw [ht] at hn
    have hq:=XN src p (tok_parts ht).2.1
    have htl:=tok_len ht
    have hsk:=XM src (src.size-t.length)
    rw [hq.1] at hsk
    have hkl:=HK false t
    have hso2:=hso.cons ht
    rw [hlr,show src.size-(src.size-p)=p by omega] at hso2
    obtain⟨y,h1,h2⟩:=ih (src.size-(skip false t).length) (L++[⟨k,p,s,v⟩]) (by omega) hsk.2 (by simp only [Ç,Æ,Î];omega) (by rw [hsk.1];exact hso2)
    refine⟨y,Ev.step (fun n=>C7.eq_2 ..) ?_,h2⟩
    simp only [Ð (show (p:Int)<src.size by omega),É]
    refine Ev.bind hn ?_
    simp only [nxO,N8,ê,Ä]
    refine Ev.bind (XL src _ _ hs hq.2) ?_
    have e:(Ov src (src.size-t.length))=src.size-(skip false t).length:=by unfold Ov;rw [hq.1]
    rw [e]
    rw [Ě] at h1
    exact h1
 simp only [Ä]
 refine Ev.bind (XL src 0 [] hs (ú _)) ?_
 have e0:Ov src 0=src.size-(skip false (bl src)).length:=by unfold Ov;rw [Ą]
 obtain⟨y,h1,h2⟩:=loop _ (Ov src 0) [] (Õ _) (by rw [e0];exact hp0.2) (ú _) (by rw [e0,hp0.1];exact RD.nil _ _)
 refine Ev.bind h1 ?_
 rcases h2 with⟨L',rfl,hl,hg⟩|⟨q,e,rfl,hb⟩
 . cases ht:Lx.tokens src.data.toList with
   |ok ts =>
    have hg2:Lx.Good src.size (skip false (bl src)) ts:=tokens_good ht
    have:=hg2.unique hg
    subst this
    simp only [O0 (show (L'.map N4).length<=1000000 by rw [Ó];omega),Á,Ě]
    exact Ev.pure
   |error x =>
    obtain⟨q,e⟩:=x
    have hb:Lx.Bad src.size (skip false (bl src)) q e:=tokens_bad ht
    exact (hg.notBad hb).elim
 . cases ht:Lx.tokens src.data.toList with
   |ok ts =>
    have hg:Lx.Good src.size (skip false (bl src)) ts:=tokens_good ht
    exact (hg.notBad hb).elim
   |error x =>
    obtain⟨q',e'⟩:=x
    have hb2:Lx.Bad src.size (skip false (bl src)) q' e':=tokens_bad ht
    obtain⟨rfl,rfl⟩:=hb2.unique hb
    exact Ev.pure
end Go.Proofs.YtkcfmlfkfagejaaGreatDoor
namespace Go.Proofs.YtkcfmlfkfagejaaGreatDoor
open Go.RowKit Go.Q Go.Vl Go.Sp Go.Lx
theorem ZB (src:Â)(t:List Ab×Am)(h:OA src=some t):CZ Tryz.prog 116 [tP src] (.tup [hP t.1 Ey,.agg [iP t.2.At,iP t.2.E]]):=by
 obtain rfl:=Ac h
 obtain⟨n,hn⟩:=(Y9 src).get
 exact RH n src _ hn
theorem Zy (l:List (List UInt8)):(l.map fun w=>(⟨⟨w⟩⟩:Â)).map (·.data.toList)=l:=by
 rw [ġ]
 have:((fun x:Â=>x.data.toList)∘fun w=>(⟨⟨w⟩⟩:Â))=id:=by funext w;rfl
 rw [this,List.map_id]
theorem ZA (l:List Ab):(l.flatMap F7).length<=l.length:=by
 induction l with
 |nil=>exact Õ _
 |cons t l ih =>
  rw [ę,Ç,Æ]
  have:(F7 t).length<=1:=by
   unfold F7
   split
   . exact Õ _
   split
   . exact Õ _
   split
   . exact Õ _
   . exact ú _
  omega
theorem UL {l:List Ab}(hl:l.length<=1000000)(hn:∀ t∈l,-9223372036854775808<=t.N/\t.N<=9223372036854775807)(h3:∀ t∈l,t.Kind≠3):∀ (r:List Ab) (k:Nat) (acc:List Â),l.drop k=r->k<=l.length->acc.length<=k ->
 Ev (fun n=>Dg n l acc (k:Int)) (acc++(r.flatMap F7).map fun w=>⟨⟨w⟩⟩)
 | [],k,acc,hr,hk,ha=>by
  have:=LY hr hk
  refine Ev.step (fun n=>Dg.eq_2 ..) (Ev.of fun n=>?_)
  rw [Ñ (by omega),List.flatMap_nil,î,ç];rfl
 |t::r,k,acc,hr,hk,ha=>by
  obtain⟨h1,h2⟩:=He hr
  have hm:t∈l:=ā (by rw [hr];simp)
  have ih:=fun (w:List (List UInt8)) (hw:w.length<=1)=>UL hl hn h3 r (k+1) (acc++w.map fun w=>⟨⟨w⟩⟩) h1 (by omega) (by rw [Ç,Ó];omega)
  have app:∀ s:Â,B4 17 acc [s]=some (acc++[s]):=fun s=>by
   unfold B4
   rw [Ê (by simp only [Æ,Î];omega)]
  refine Ev.step (fun n=>Dg.eq_2 ..) ?_
  simp only [RE h2,É,RM hr,Á,OR (show k<4611686018427387904 by omega)]
  have e:acc++((t::r).flatMap F7).map (fun w=>(⟨⟨w⟩⟩:Â))=(acc++(F7 t).map fun w=>⟨⟨w⟩⟩)++(r.flatMap F7).map fun w=>⟨⟨w⟩⟩:=by simp
  rw [e]
  by_cases q:t.Kind=1∨t.Kind=4
  . have hv:((bif (t.Kind == 1) then some (t.Kind == 1) else some (t.Kind == 4)):Option Bool)=some true:=by rcases q with q|q<;>rw [q]<;>rfl
    have hw:F7 t=[t.S.data.toList]:=by unfold F7;rw [Ê q]
    simp only [hv,Á,É,app]
    rw [hw]
    exact ih [t.S.data.toList] (Õ _)
  . have hv:((bif (t.Kind == 1) then some (t.Kind == 1) else some (t.Kind == 4)):Option Bool)=some false:=by
     rw [show (t.Kind == 1)=false from beq_eq_false_iff_ne.2 fun h=>q (.inl h),show (t.Kind == 4)=false from beq_eq_false_iff_ne.2 fun h=>q (.inr h)];rfl
    simp only [hv,Á,Ä]
    by_cases q2:t.Kind=2
    . have hw:F7 t=[Lib.itoa t.N]:=by unfold F7;rw [È q,Ê q2]
      simp only [show (t.Kind == 2)=true by rw [q2];rfl,É,show NJ t.N=some ⟨⟨Lib.itoa t.N⟩⟩ by unfold NJ;rw [Ê (hn t hm)],Á,app]
      rw [hw]
      exact ih [Lib.itoa t.N] (Õ _)
    . have hw:F7 t=[]:=by unfold F7;rw [È q,È q2,È (h3 t hm)]
      simp only [show (t.Kind == 2)=false by simpa using q2,show (t.Kind == 3)=false by simpa using h3 t hm,Ä]
      have hi:=ih [] (ú _)
      simp only [î,ç] at hi
      rw [hw,î,ç]
      exact hi
theorem Af2 (l:List Ab)(t:Â)(h:NK l=some t):CZ Tryz.prog 66 [hP l Ey] (tP t):=by
 unfold NK at h
 split at h
 . rename_i hok
   obtain rfl:=Ac h
   obtain⟨h1,h2,h3,h4⟩:=hok
   have hl:=UL h1 h2 h4 l 0 [] rfl (ú _) (Õ _)
   have hw:=ZA l
   have hj:NI ((l.flatMap F7).map fun w=>⟨⟨w⟩⟩) ⟨#[32]⟩=some (E0 l):=by
    unfold NI
    rw [Zy,Ê ⟨by rw [Ó];omega,h3⟩];rfl
   have:Ev (fun n=>Ky n l) (E0 l):=by
    unfold Ky
    refine Ev.bind hl ?_
    rw [ö,hj];exact Ev.pure
   obtain⟨n,hn⟩:=this.get
   exact U6 n l _ hn
 . cases h
end Go.Proofs.YtkcfmlfkfagejaaGreatDoor
