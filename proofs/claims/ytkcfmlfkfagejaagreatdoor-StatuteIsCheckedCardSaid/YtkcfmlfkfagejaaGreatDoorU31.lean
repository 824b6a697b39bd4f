/-
  The walks of chapter 33: printer: the program computes the plain functions. (Printed by lift.py.)
-/
import Derived.Test.YtkcfmlfkfagejaaGreatDoorU30
set_option linter.unusedVariables false
set_option linter.unusedSimpArgs false
namespace Go.Proofs.YtkcfmlfkfagejaaGreatDoor
open Go.RowKit Go.Q Go.Vl Go.Sp
set_option maxRecDepth 100000
set_option linter.unusedSimpArgs false
set_option maxHeartbeats 4000000
set_option linter.unusedVariables false
abbrev NR:List PV:=[.mp [((.int .i64 5),(.int .i64 1)),((.int .i64 6),(.int .i64 1)),((.int .i64 20),(.int .i64 3))]]
theorem E3 (p:Ap)(n_:Int)(r:(Unit×Ap))(h:CO p n_=some r):CR Tryz.prog 109 [iP n_] [oT p.l,bP p.bad] (.ret (.tup [])) [oT r.2.l,bP r.2.bad]:=by
 unfold CO at h
 refine vM ⟨[0,1],[]⟩ Tryz.func109 follows fun Q hQ=>?_
 refine mE 0 [] h (fun p1=>⟨[(0,.ptr 0 0),(1,iP n_)],[[oT p.l,bP p1]]⟩) ?_ fun y e hJ=>?_
 rintro p1 h
 obtain⟨l,hl,h⟩:=Ad h
 obtain⟨l1,hl1,h⟩:=Ad h
 cases h
 exact rt 1 [(7,fB B0 hl),(0,fa B0 hl1)] hQ
 rcases Ai e with⟨hc,e⟩|⟨hc,e⟩
 exact mJ 1 [(5,fo hc)] (hJ _ (oj e))
 rcases Ai e with⟨hc1,e⟩|⟨hc1,e⟩
 exact mJ 1 [(5,fo hc),(3,fo hc1)] (hJ _ (oj e))
 exact mJ 1 [(5,fo hc),(3,fo hc1)] (hJ _ (oj e))
theorem Hf (n:Nat)(p:Ap)(s:ByteArray)(r:(Unit×Ap))(h:Ep n p s=some r):CR Tryz.prog 110 [tP s] [oT p.l,bP p.bad] (.ret (.tup [])) [oT r.2.l,bP r.2.bad]:=by
 unfold Ep at h
 refine vM ⟨[0,1,4,18,19,20],[]⟩ Tryz.func110 follows fun Q hQ=>?_
 refine mE 0 [] h (fun p1=>⟨[(0,.ptr 0 0),(1,tP s)],[[oT p.l,bP p1]]⟩) ?_ fun y e hJ=>?_
 rintro p1 h
 refine mE 1 [] h (fun p2=>⟨[(0,.ptr 0 0),(1,tP s)],[[oT p.l,bP p2]]⟩) ?_ fun y1 e1 hJ1=>?_
 rintro p2 h
 obtain⟨l,hl,h⟩:=Ad h
 obtain⟨l1,hl1,h⟩:=Ad h
 cases h
 exact rt 1 [(7,fB B0 hl),(0,fa B0 hl1)] hQ
 refine lF 1 [] (A:=(Int×Bool)) (fun n (v19,p3)=>Du n s v19 p3) (fun (v19,p3)=>⟨[(0,.ptr 0 0),(1,tP s),(18,iP (s.size:Int)),(19,iP v19)],[[oT p.l,bP p3]]⟩) (0,p1) e1 (fun _=>rfl) ?_
 rintro n ⟨v19,p3⟩ e1 ih
 replace e1:=(Du.eq_2 ..).symm.trans e1
 refine cD 1 [] e1 (fun hc4 e1=>?_) fun hc4 e1=>?_
 refine mE 2 [] e1 (fun p4=>⟨[(0,.ptr 0 0),(1,tP s),(18,iP (s.size:Int)),(19,iP v19)],[[oT p.l,bP p4]]⟩) ?_ fun y2 e2 hJ2=>?_
 rintro p4 e1
 exact mJ 1 [] (ih (_,_) e1)
 rcases Ai e2 with⟨hc,e2⟩|⟨hc,e2⟩
 exact mJ 1 [(5,fo hc)] (hJ2 _ (oj e2))
 obtain⟨c,hc1,e2⟩:=Ad e2
 rcases Ai e2 with⟨hc2,e2⟩|⟨hc2,e2⟩
 rcases Ai e2 with⟨hc3,e2⟩|⟨hc3,e2⟩
 exact mJ 1 [(5,fo hc),(2,fb hc1),(1,fo hc2),(2,fb hc1),(1,fo hc3)] (hJ2 _ (oj e2))
 exact mJ 1 [(5,fo hc),(2,fb hc1),(1,fo hc2),(2,fb hc1),(1,fo hc3),(2,fb hc1)] (hJ2 _ (oj e2))
 exact mJ 1 [(5,fo hc),(2,fb hc1),(1,fo hc2)] (hJ2 _ (oj e2))
 exact mJ 1 [] (hJ1 _ (oj e1))
 rcases Ai e with⟨hc5,e⟩|⟨hc5,e⟩
 exact mJ 1 [(5,fo hc5)] (hJ _ (oj e))
 exact mJ 1 [(5,fo hc5)] (hJ _ (oj e))
theorem Ds (c:Int)(r:Bool)(h:Fh c=some r):Dr Tryz.prog 132 [uP c] (bP r):=by
 unfold Fh at h
 refine vP ⟨[0,2],[]⟩ Tryz.func132 follows fun Q hQ=>?_
 refine mE 1 [] h (fun v2=>⟨[(2,bP v2)],[]⟩) ?_ fun y e hJ=>?_
 rintro v2 h
 cases h
 exact rt 0 [] hQ
 rcases Ai e with⟨hc,e⟩|⟨hc,e⟩
 rcases Ai e with⟨hc1,e⟩|⟨hc1,e⟩
 exact mJ 1 [(3,fo hc),(4,fo hc1)] (hJ _ (oj e))
 exact mJ 1 [(3,fo hc),(4,fo hc1)] (hJ _ (oj e))
 exact mJ 1 [(3,fo hc)] (hJ _ (oj e))
theorem DR (n:Nat)(p:Ap)(s:ByteArray)(r:(Unit×Ap))(h:CG n p s=some r):CR Tryz.prog 107 [tP s] [oT p.l,bP p.bad] (.ret (.tup [])) [oT r.2.l,bP r.2.bad]:=by
 unfold CG at h
 refine vM ⟨[0,1,4,5,6,16,17,18],[]⟩ Tryz.func107 follows fun Q hQ=>?_
 refine mE 1 [] h (fun ok=>⟨[(0,.ptr 0 0),(1,tP s),(4,.fno true 132 []),(5,bP ok)],[[oT p.l,bP p.bad]]⟩) ?_ fun y e hJ=>?_
 rintro ok h
 refine mE 1 [] h (fun ok1=>⟨[(0,.ptr 0 0),(1,tP s),(5,bP ok1)],[[oT p.l,bP p.bad]]⟩) ?_ fun y1 e1 hJ1=>?_
 rintro ok1 h
 refine mE 0 [] h (fun p1=>⟨[(0,.ptr 0 0),(1,tP s)],[[oT p.l,bP p1]]⟩) ?_ fun y2 e2 hJ2=>?_
 rintro p1 h
 obtain⟨l,hl,h⟩:=Ad h
 obtain⟨l1,hl1,h⟩:=Ad h
 cases h
 exact rt 1 [(7,fB B0 hl),(0,fa B0 hl1)] hQ
 rcases Ai e2 with⟨hc,e2⟩|⟨hc,e2⟩
 exact mJ 1 [(5,fo hc)] (hJ2 _ (oj e2))
 exact mJ 1 [(5,fo hc)] (hJ2 _ (oj e2))
 refine lF 1 [] (A:=(Bool×Int)) (fun n (ok2,v17)=>Dv n s ok2 v17) (fun (ok2,v17)=>⟨[(0,.ptr 0 0),(1,tP s),(4,.fno true 132 []),(5,bP ok2),(16,iP (s.size:Int)),(17,iP v17)],[[oT p.l,bP p.bad]]⟩) (ok,0) e1 (fun _=>rfl) ?_
 rintro n ⟨ok2,v17⟩ e1 ih
 replace e1:=(Dv.eq_2 ..).symm.trans e1
 refine cD 1 [] e1 (fun hc6 e1=>?_) fun hc6 e1=>?_
 refine mE 2 [] e1 (fun ok3=>⟨[(0,.ptr 0 0),(1,tP s),(4,.fno true 132 []),(5,bP ok3),(16,iP (s.size:Int)),(17,iP v17)],[[oT p.l,bP p.bad]]⟩) ?_ fun y3 e3 hJ3=>?_
 rintro ok3 e1
 exact mJ 1 [] (ih (_,_) e1)
 rcases Ai e3 with⟨hc1,e3⟩|⟨hc1,e3⟩
 obtain⟨c,hc2,e3⟩:=Ad e3
 obtain⟨n_,hn_,e3⟩:=Ad e3
 rcases Ai e3 with⟨hc3,e3⟩|⟨hc3,e3⟩
 exact mJ 1 [(1,fo hc1),(3,fb hc2),(0,fk (Ds _ _ hn_)),(0,fo hc3)] (hJ3 _ (oj e3))
 rcases Ai e3 with⟨hc4,e3⟩|⟨hc4,e3⟩
 rcases Ai e3 with⟨hc5,e3⟩|⟨hc5,e3⟩
 exact mJ 1 [(1,fo hc1),(3,fb hc2),(0,fk (Ds _ _ hn_)),(0,fo hc3),(2,fo hc4),(2,fb hc2),(2,fo hc5),(2,fb hc2)] (hJ3 _ (oj e3))
 exact mJ 1 [(1,fo hc1),(3,fb hc2),(0,fk (Ds _ _ hn_)),(0,fo hc3),(2,fo hc4),(2,fb hc2),(2,fo hc5)] (hJ3 _ (oj e3))
 exact mJ 1 [(1,fo hc1),(3,fb hc2),(0,fk (Ds _ _ hn_)),(0,fo hc3),(2,fo hc4)] (hJ3 _ (oj e3))
 exact mJ 1 [(1,fo hc1)] (hJ3 _ (oj e3))
 exact mJ 1 [] (hJ1 _ (oj e1))
 rcases Ai e with⟨hc7,e⟩|⟨hc7,e⟩
 exact mJ 1 [(3,fo hc7)] (hJ _ (oj e))
 exact mJ 1 [(3,fo hc7)] (hJ _ (oj e))
theorem AB (n:Nat)(p:Ap)(l:(List ByteArray))(r:(Unit×Ap))(h:A9 n p l=some r):CR Tryz.prog 108 [hS l] [oT p.l,bP p.bad] (.ret (.tup [])) [oT r.2.l,bP r.2.bad]:=by
 unfold A9 at h
 refine vM ⟨[0,1,5,6,7,8,9],[]⟩ Tryz.func108 follows fun Q hQ=>?_
 refine mE 1 [(1,fl BL l)] h (fun p1=>⟨[],[[oT p1,bP p.bad]]⟩) ?_ fun y e hJ=>?_
 rintro p1 h
 cases h
 exact rt 0 [] hQ
 refine lF 1 [] (A:=(Int×(List Ac))) (fun n (v8,p2)=>De n l v8 p2) (fun (v8,p2)=>⟨[(0,.ptr 0 0),(6,hS l),(7,iP (l.length:Int)),(8,iP v8)],[[oT p2,bP p.bad]]⟩) (0,p.l) e (fun _=>rfl) ?_
 rintro n ⟨v8,p2⟩ e ih
 replace e:=(De.eq_2 ..).symm.trans e
 refine cD 1 [] e (fun hc e=>?_) fun hc e=>?_
 obtain⟨x,hx,e⟩:=Ad e
 obtain⟨l1,hl1,e⟩:=Ad e
 obtain⟨l2,hl2,e⟩:=Ad e
 exact mJ 4 [(0,fi BL hx),(9,fB B0 hl1),(0,fa B0 hl2)] (ih (_,_) e)
 exact mJ 1 [] (hJ _ (oj e))
theorem PT (n:Nat)(e:Ab)(r:Int)(h:JV n e=some r):Dr Tryz.prog 157 [.agg [iP e.Op,iP e.N,tP e.S,hX e.Kids,iP e.At]] (iP r):=by
 unfold JV at h
 refine vP ⟨[0,1,2,4,6,7,9,11,13,14,15,16,23],[]⟩ Tryz.func157 follows fun Q hQ=>?_
 refine cD 4 [] h (fun hc4 h=>?_) fun hc4 h=>?_
 cases h
 exact rt 1 [] hQ
 refine cD 1 [] h (fun hc3 h=>?_) fun hc3 h=>?_
 cases h
 exact rt 1 [] hQ
 refine cD 1 [] h (fun hc2 h=>?_) fun hc2 h=>?_
 cases h
 exact rt 1 [] hQ
 obtain⟨o_,ho_,h⟩:=Ad h
 refine mI 1 [(0,fk (Dj _ ho_)),(0,fl Cc o_)] h (fun _=>⟨[(2,iP 0)],[[iP e.Op,iP e.N,tP e.S,hX e.Kids,iP e.At]]⟩) ?_ fun y e1 h hJ=>?_
 rintro _ h
 cases h
 exact rt 1 [] hQ
 refine lF 1 [] (A:=Int) (fun n v15=>Ga n o_ e v15) (fun v15=>⟨[(1,.ptr 0 0),(2,iP 0),(13,oE o_),(14,iP (o_.length:Int)),(15,iP v15)],[[iP e.Op,iP e.N,tP e.S,hX e.Kids,iP e.At]]⟩) 0 e1 (fun _=>rfl) ?_
 rintro n v15 e1 ih
 replace e1:=(Ga.eq_2 ..).symm.trans e1
 refine cD 1 [] e1 (fun hc1 e1=>?_) fun hc1 e1=>?_
 obtain⟨x,hx,e1⟩:=Ad e1
 refine cD 3 [(0,fi Cc hx)] e1 (fun hc e1=>?_) fun hc e1=>?_
 cases e1
 cases h
 exact rt 1 [] hQ
 exact mJ 1 [] (ih _ e1)
 exact mJ 1 [] (hJ _ (oj e1))
theorem Ih (p:(List Ac))(p1:Bool)(e:Int)(e1:Int)(e2:ByteArray)(e3:(List Ab))(e4:Int)(b:Av)(r:Bool)(h:Ee p p1 e e1 e2 e3 e4 b=some r):K6 Tryz.prog 136 [.agg [tP b.sign,iP b.op,iP b.level],.ptr 1 0] [[oT p,bP p1],[iP e,iP e1,tP e2,hX e3,iP e4],NR] (.ret (bP r)) [[oT p,bP p1],[iP e,iP e1,tP e2,hX e3,iP e4],NR]:=by
 unfold Ee at h
 refine vS ⟨[0,1,2,3],[]⟩ Tryz.func136 follows fun Q hQ=>?_
 cases h
 exact rt 2 [] hQ
theorem GY (n:Nat)(p:(List Ac))(p1:Bool)(e:Int)(e1:Int)(e2:ByteArray)(e3:(List Ab))(e4:Int)(s:(List Av))(r:Int)(h:Dd n p p1 e e1 e2 e3 e4 s=some r):K6 Tryz.prog 134 [hE s,.fn 136 [.ptr 1 0]] [[oT p,bP p1],[iP e,iP e1,tP e2,hX e3,iP e4],NR] (.ret (iP r)) [[oT p,bP p1],[iP e,iP e1,tP e2,hX e3,iP e4],NR]:=by
 unfold Dd at h
 refine vS ⟨[0,1,4,5,7,8,9,16],[]⟩ Tryz.func134 follows fun Q hQ=>?_
 refine mI 2 [(2,fl Cc s)] h (fun _=>⟨[(4,iP 0)],[[oT p,bP p1],[iP e,iP e1,tP e2,hX e3,iP e4],NR]⟩) ?_ fun y e5 h hJ=>?_
 rintro _ h
 cases h
 exact rt 1 [] hQ
 refine lF 1 [] (A:=Int) (fun n v8=>Cd n s p p1 e e1 e2 e3 e4 v8) (fun v8=>⟨[(0,hE s),(1,.fn 136 [.ptr 1 0]),(4,iP 0),(7,iP (s.length:Int)),(8,iP v8)],[[oT p,bP p1],[iP e,iP e1,tP e2,hX e3,iP e4],NR]⟩) 0 e5 (fun _=>rfl) ?_
 rintro n v8 e5 ih
 replace e5:=(Cd.eq_2 ..).symm.trans e5
 refine cD 1 [] e5 (fun hc1 e5=>?_) fun hc1 e5=>?_
 obtain⟨x,hx,e5⟩:=Ad e5
 obtain⟨e6,he6,e5⟩:=Ad e5
 refine cD 3 [(5,fi Cc hx),(1,fs (Ih _ _ _ _ _ _ _ _ _ he6))] e5 (fun hc e5=>?_) fun hc e5=>?_
 cases e5
 cases h
 exact rt 1 [] hQ
 exact mJ 1 [] (ih _ e5)
 exact mJ 1 [] (hJ _ (oj e5))
theorem J1 (n0:Nat)
 (ih_parse_printer_expr:∀ m,m<=n0->∀ (p:Ap) (e:Ab) (r:(Unit×Ap)),Bz m p e=some r->CR Tryz.prog 111 [.agg [iP e.Op,iP e.N,tP e.S,hX e.Kids,iP e.At]] [oT p.l,bP p.bad] (.ret (.tup [])) [oT r.2.l,bP r.2.bad])
 (ih_parse_printer_operand:∀ m,m<=n0->∀ (p:Ap) (e:Ab) (need:Int) (r:(Unit×Ap)),AD m p e need=some r->CR Tryz.prog 133 [.agg [iP e.Op,iP e.N,tP e.S,hX e.Kids,iP e.At],iP need] [oT p.l,bP p.bad] (.ret (.tup [])) [oT r.2.l,bP r.2.bad])
 (n:Nat) (hn:n<=n0) (p:Ap) (e:Ab) (r:(Unit×Ap)) (h:Bz (n+1) p e=some r):CR Tryz.prog 111 [.agg [iP e.Op,iP e.N,tP e.S,hX e.Kids,iP e.At]] [oT p.l,bP p.bad] (.ret (.tup [])) [oT r.2.l,bP r.2.bad]:=by
 replace h:=(Bz.eq_2 ..).symm.trans h
 refine vM ⟨[0,1,3,4,5,6,7,8,9,13,24,35,59,65,71,77,87,88,89,90,95,106,117,122,147,158],[]⟩ Tryz.func111 follows fun Q hQ=>?_
 refine cD 5 [] h (fun hc14 h=>?_) fun hc14 h=>?_
 obtain⟨n_,hn_,h⟩:=Ad h
 cases h
 exact rt 1 [(3,fm (E3 _ _ _ hn_))] hQ
 refine cD 1 [] h (fun hc13 h=>?_) fun hc13 h=>?_
 obtain⟨t,ht,h⟩:=Ad h
 cases h
 exact rt 1 [(3,fm (Hf _ _ _ _ ht))] hQ
 refine cD 1 [] h (fun hc12 h=>?_) fun hc12 h=>?_
 obtain⟨n_1,hn_1,h⟩:=Ad h
 cases h
 exact rt 1 [(3,fm (DR _ _ _ _ hn_1))] hQ
 refine cD 1 [] h (fun hc11 h=>?_) fun hc11 h=>?_
 obtain⟨n_2,hn_2,h⟩:=Ad h
 obtain⟨l,hl,h⟩:=Ad h
 obtain⟨s,hs,h⟩:=Ad h
 refine mE 3 [(3,fm (DR _ _ _ _ hn_2)),(1,fB BL hl),(0,fm (AB _ _ _ _ hs)),(2,fl AE e.Kids)] h (fun (p1,p2)=>⟨[(0,.ptr 0 0)],[[oT p1,bP p2],[iP e.Op,iP e.N,tP e.S,hX e.Kids,iP e.At],NR]⟩) ?_ fun y e1 hJ=>?_
 rintro⟨p1,p2⟩ h
 obtain⟨l1,hl1,h⟩:=Ad h
 obtain⟨s1,hs1,h⟩:=Ad h
 cases h
 exact rt 1 [(1,fB BL hl1),(0,fm (AB _ _ _ _ hs1))] hQ
 refine lR 1 [] (A:=(Int×(List Ac)×Bool)) (fun n (v89,p3,p4)=>CD n e l v89 p3 p4) (fun (v89,p3,p4)=>⟨[(0,.ptr 0 0),(87,hX e.Kids),(88,iP (e.Kids.length:Int)),(89,iP v89)],[[oT p3,bP p4],[iP e.Op,iP e.N,tP e.S,hX e.Kids,iP e.At],NR]⟩) (0,s.2.l,s.2.bad) hn e1 (fun _=>rfl) ?_
 rintro n ⟨v89,p3,p4⟩ hn e1 ih
 replace e1:=(CD.eq_2 ..).symm.trans e1
 refine cD 1 [] e1 (fun hc1 e1=>?_) fun hc1 e1=>?_
 obtain⟨x,hx,e1⟩:=Ad e1
 refine cD 3 [(1,fi AE hx)] e1 (fun hc e1=>?_) fun hc e1=>?_
 obtain⟨l2,hl2,e1⟩:=Ad e1
 obtain⟨s2,hs2,e1⟩:=Ad e1
 obtain⟨o_,ho_,e1⟩:=Ad e1
 exact mJ 3 [(1,fB BL hl2),(0,fm (AB _ _ _ _ hs2)),(2,fm (ih_parse_printer_operand _ hn _ _ _ _ ho_))] (ih (_,_,_) e1)
 obtain⟨o_1,ho_1,e1⟩:=Ad e1
 exact mJ 2 [(2,fm (ih_parse_printer_operand _ hn _ _ _ _ ho_1))] (ih (_,_,_) e1)
 exact mJ 1 [] (hJ _ (oj e1))
 refine mE 1 [] h (fun v106=>⟨[(0,.ptr 0 0),(3,.ptr 1 0),(4,.mref 2),(106,bP v106)],[[oT p.l,bP p.bad],[iP e.Op,iP e.N,tP e.S,hX e.Kids,iP e.At],NR]⟩) ?_ fun y1 e2 hJ1=>?_
 rintro v106 h
 refine cD 0 [] h (fun hc8 h=>?_) fun hc8 h=>?_
 refine cD 1 [(2,fl AE e.Kids),(3,fL [(5,1),(6,1),(20,3)] e.Op)] h (fun hc4 h=>?_) fun hc4 h=>?_
 cases h
 exact rt 1 [] hQ
 refine cD 3 [] h (fun hc3 h=>?_) fun hc3 h=>?_
 obtain⟨l3,hl3,h⟩:=Ad h
 obtain⟨s3,hs3,h⟩:=Ad h
 obtain⟨x1,hx1,h⟩:=Ad h
 obtain⟨o_2,ho_2,h⟩:=Ad h
 cases h
 exact rt 2 [(1,fB BL hl3),(0,fm (AB _ _ _ _ hs3)),(3,fi AE hx1),(1,fm (ih_parse_printer_operand _ hn _ _ _ _ ho_2))] hQ
 refine cD 1 [] h (fun hc2 h=>?_) fun hc2 h=>?_
 obtain⟨l4,hl4,h⟩:=Ad h
 obtain⟨s4,hs4,h⟩:=Ad h
 obtain⟨x2,hx2,h⟩:=Ad h
 obtain⟨o_3,ho_3,h⟩:=Ad h
 cases h
 exact rt 2 [(1,fB BL hl4),(0,fm (AB _ _ _ _ hs4)),(3,fi AE hx2),(1,fm (ih_parse_printer_operand _ hn _ _ _ _ ho_3))] hQ
 obtain⟨x3,hx3,h⟩:=Ad h
 obtain⟨o_4,ho_4,h⟩:=Ad h
 obtain⟨l5,hl5,h⟩:=Ad h
 obtain⟨s5,hs5,h⟩:=Ad h
 obtain⟨x4,hx4,h⟩:=Ad h
 obtain⟨o_5,ho_5,h⟩:=Ad h
 obtain⟨l6,hl6,h⟩:=Ad h
 obtain⟨s6,hs6,h⟩:=Ad h
 obtain⟨x5,hx5,h⟩:=Ad h
 obtain⟨o_6,ho_6,h⟩:=Ad h
 cases h
 exact rt 5 [(3,fi AE hx3),(1,fm (ih_parse_printer_operand _ hn _ _ _ _ ho_4)),(1,fB BL hl5),(0,fm (AB _ _ _ _ hs5)),(3,fi AE hx4),(1,fm (ih_parse_printer_operand _ hn _ _ _ _ ho_5)),(1,fB BL hl6),(0,fm (AB _ _ _ _ hs6)),(3,fi AE hx5),(1,fm (ih_parse_printer_operand _ hn _ _ _ _ ho_6))] hQ
 obtain⟨o_7,ho_7,h⟩:=Ad h
 obtain⟨k,hk,h⟩:=Ad h
 refine mE 1 [(0,fk (Dj _ ho_7)),(1,fs (GY _ _ _ _ _ _ _ _ _ _ hk))] h (fun v24=>⟨[(0,.ptr 0 0),(3,.ptr 1 0),(7,iP k),(24,bP v24)],[[oT p.l,bP p.bad],[iP e.Op,iP e.N,tP e.S,hX e.Kids,iP e.At],NR]⟩) ?_ fun y2 e3 hJ2=>?_
 rintro v24 h
 refine cD 0 [] h (fun hc6 h=>?_) fun hc6 h=>?_
 cases h
 exact rt 1 [] hQ
 obtain⟨o_8,ho_8,h⟩:=Ad h
 obtain⟨x6,hx6,h⟩:=Ad h
 refine mE 3 [(0,fk (Dj _ ho_8)),(1,fi Cc hx6)] h (fun left=>⟨[(0,.ptr 0 0),(3,.ptr 1 0),(8,.ptr 3 0),(9,iP left)],[[oT p.l,bP p.bad],[iP e.Op,iP e.N,tP e.S,hX e.Kids,iP e.At],NR,[tP x6.sign,iP x6.op,iP x6.level]]⟩) ?_ fun y3 e4 hJ3=>?_
 rintro left h
 obtain⟨x7,hx7,h⟩:=Ad h
 obtain⟨o_9,ho_9,h⟩:=Ad h
 obtain⟨l7,hl7,h⟩:=Ad h
 obtain⟨s7,hs7,h⟩:=Ad h
 obtain⟨x8,hx8,h⟩:=Ad h
 obtain⟨o_10,ho_10,h⟩:=Ad h
 cases h
 exact rt 3 [(3,fi AE hx7),(2,fm (ih_parse_printer_operand _ hn _ _ _ _ ho_9)),(3,fB BL hl7),(0,fm (AB _ _ _ _ hs7)),(3,fi AE hx8),(6,fm (ih_parse_printer_operand _ hn _ _ _ _ ho_10))] hQ
 refine cD 0 [] e4 (fun hc5 e4=>?_) fun hc5 e4=>?_
 exact mJ 1 [] (hJ3 _ (oj e4))
 exact mJ 0 [] (hJ3 _ (oj e4))
 rcases Ai e3 with⟨hc7,e3⟩|⟨hc7,e3⟩
 exact mJ 1 [(2,fo hc7)] (hJ2 _ (oj e3))
 exact mJ 1 [(2,fo hc7),(2,fl AE e.Kids)] (hJ2 _ (oj e3))
 refine cD 0 [] e2 (fun hc10 e2=>?_) fun hc10 e2=>?_
 exact mJ 0 [] (hJ1 _ (oj e2))
 refine cD 1 [] e2 (fun hc9 e2=>?_) fun hc9 e2=>?_
 exact mJ 0 [] (hJ1 _ (oj e2))
 exact mJ 1 [] (hJ1 _ (oj e2))
theorem Ig (n0:Nat)
 (ih_parse_printer_expr:∀ m,m<=n0->∀ (p:Ap) (e:Ab) (r:(Unit×Ap)),Bz m p e=some r->CR Tryz.prog 111 [.agg [iP e.Op,iP e.N,tP e.S,hX e.Kids,iP e.At]] [oT p.l,bP p.bad] (.ret (.tup [])) [oT r.2.l,bP r.2.bad])
 (ih_parse_printer_operand:∀ m,m<=n0->∀ (p:Ap) (e:Ab) (need:Int) (r:(Unit×Ap)),AD m p e need=some r->CR Tryz.prog 133 [.agg [iP e.Op,iP e.N,tP e.S,hX e.Kids,iP e.At],iP need] [oT p.l,bP p.bad] (.ret (.tup [])) [oT r.2.l,bP r.2.bad])
 (n:Nat) (hn:n<=n0) (p:Ap) (e:Ab) (need:Int) (r:(Unit×Ap)) (h:AD (n+1) p e need=some r):CR Tryz.prog 133 [.agg [iP e.Op,iP e.N,tP e.S,hX e.Kids,iP e.At],iP need] [oT p.l,bP p.bad] (.ret (.tup [])) [oT r.2.l,bP r.2.bad]:=by
 replace h:=(AD.eq_2 ..).symm.trans h
 refine vM ⟨[0,1,2,4,9],[]⟩ Tryz.func133 follows fun Q hQ=>?_
 obtain⟨l,hl,h⟩:=Ad h
 refine cD 2 [(2,fk (PT _ _ _ hl))] h (fun hc h=>?_) fun hc h=>?_
 obtain⟨e1,he1,h⟩:=Ad h
 cases h
 exact rt 1 [(2,fm (ih_parse_printer_expr _ hn _ _ _ he1))] hQ
 obtain⟨l1,hl1,h⟩:=Ad h
 obtain⟨s,hs,h⟩:=Ad h
 obtain⟨e2,he2,h⟩:=Ad h
 obtain⟨l2,hl2,h⟩:=Ad h
 obtain⟨s1,hs1,h⟩:=Ad h
 cases h
 exact rt 3 [(1,fB BL hl1),(0,fm (AB _ _ _ _ hs)),(2,fm (ih_parse_printer_expr _ hn _ _ _ he2)),(1,fB BL hl2),(0,fm (AB _ _ _ _ hs1))] hQ
theorem FW:∀ n:Nat,(∀ m,m<=n->∀ (p:Ap) (e:Ab) (r:(Unit×Ap)),Bz m p e=some r->CR Tryz.prog 111 [.agg [iP e.Op,iP e.N,tP e.S,hX e.Kids,iP e.At]] [oT p.l,bP p.bad] (.ret (.tup [])) [oT r.2.l,bP r.2.bad])/\(∀ m,m<=n->∀ (p:Ap) (e:Ab) (need:Int) (r:(Unit×Ap)),AD m p e need=some r->CR Tryz.prog 133 [.agg [iP e.Op,iP e.N,tP e.S,hX e.Kids,iP e.At],iP need] [oT p.l,bP p.bad] (.ret (.tup [])) [oT r.2.l,bP r.2.bad])
 |0=>⟨(fun m hm p e r h=>by
  obtain rfl:m=0:=by omega
  exact absurd h (by simp [Bz])),
  (fun m hm p e need r h=>by
   obtain rfl:m=0:=by omega
   exact absurd h (by simp [AD]))⟩
 |n+1=>by
  have ih:=FW n
  exact⟨fun m hm p e r h=>by
   cases m with
   |zero=>exact absurd h (by simp [Bz])
   |succ m=>exact J1 n (ih.1) (ih.2) m (by omega) p e _ h,
  fun m hm p e need r h=>by
   cases m with
   |zero=>exact absurd h (by simp [AD])
   |succ m=>exact Ig n (ih.1) (ih.2) m (by omega) p e need _ h⟩
theorem K2 (n:Nat)(p:Ap)(e:Ab)(r:(Unit×Ap))(h:Bz n p e=some r):CR Tryz.prog 111 [.agg [iP e.Op,iP e.N,tP e.S,hX e.Kids,iP e.At]] [oT p.l,bP p.bad] (.ret (.tup [])) [oT r.2.l,bP r.2.bad] :=
 (FW n).1 n (Nat.le_refl _) p e r h
end Go.Proofs.YtkcfmlfkfagejaaGreatDoor
