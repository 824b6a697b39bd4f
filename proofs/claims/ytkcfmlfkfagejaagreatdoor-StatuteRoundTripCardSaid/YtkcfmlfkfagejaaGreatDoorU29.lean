/-
  The walks of chapter 33: Known, Type, Value, Check, Span: the program computes the plain functions. (Printed by lift.py.)
-/
import Derived.Test.YtkcfmlfkfagejaaGreatDoorU16
import Derived.Test.YtkcfmlfkfagejaaGreatDoorU28
set_option linter.unusedVariables false
set_option linter.unusedSimpArgs false
namespace Go.Proofs.YtkcfmlfkfagejaaGreatDoor
open Go.RowKit Go.Q Go.Vl Go.Sp
set_option maxRecDepth 100000
set_option linter.unusedSimpArgs false
set_option maxHeartbeats 4000000
set_option linter.unusedVariables false
theorem Lm (n:Nat)(d:BG)(known:Int)(r:Int)(h:H8 n d known=some r):CZ Tryz.prog 15 [.agg [hZ d.Facts,iP d.Stored,iP d.Owner],iP known] (iP r):=by
 unfold H8 at h
 refine vP ⟨[0,1,2,4,6,10,12,13,14,15,55,82],[]⟩ Tryz.func15 follows fun Q hQ=>?_
 refine cD 2 [(4,fl EJ d.Facts)] h (fun hc15 h=>?_) fun hc15 h=>?_
 cases h
 exact rt 1 [] hQ
 refine mI 1 [(2,fl EJ d.Facts)] h (fun _=>⟨[(1,iP known),(2,.ptr 0 0),(4,iP 0)],[[hZ d.Facts,iP d.Stored,iP d.Owner]]⟩) ?_ fun y e h hJ=>?_
 rintro _ h
 refine mE 0 [] h (fun v82=>⟨[(4,iP 0),(82,bP v82)],[[hZ d.Facts,iP d.Stored,iP d.Owner]]⟩) ?_ fun y1 e1 hJ1=>?_
 rintro v82 h
 refine cD 0 [] h (fun hc h=>?_) fun hc h=>?_
 cases h
 exact rt 1 [] hQ
 cases h
 exact rt 1 [] hQ
 rcases An e1 with⟨hc1,e1⟩|⟨hc1,e1⟩
 exact mJ 1 [(3,fo hc1)] (hJ1 _ (oj e1))
 rcases An e1 with⟨hc2,e1⟩|⟨hc2,e1⟩
 exact mJ 1 [(3,fo hc1),(4,fo hc2)] (hJ1 _ (oj e1))
 rcases An e1 with⟨hc3,e1⟩|⟨hc3,e1⟩
 exact mJ 1 [(3,fo hc1),(4,fo hc2),(3,fo hc3)] (hJ1 _ (oj e1))
 rcases An e1 with⟨hc4,e1⟩|⟨hc4,e1⟩
 exact mJ 1 [(3,fo hc1),(4,fo hc2),(3,fo hc3),(3,fo hc4)] (hJ1 _ (oj e1))
 rcases An e1 with⟨hc5,e1⟩|⟨hc5,e1⟩
 exact mJ 1 [(3,fo hc1),(4,fo hc2),(3,fo hc3),(3,fo hc4),(4,fo hc5)] (hJ1 _ (oj e1))
 exact mJ 1 [(3,fo hc1),(4,fo hc2),(3,fo hc3),(3,fo hc4),(4,fo hc5)] (hJ1 _ (oj e1))
 refine lF 1 [] (A:=Int) (fun n v14=>FZ n d v14) (fun v14=>⟨[(1,iP known),(2,.ptr 0 0),(4,iP 0),(12,hZ d.Facts),(13,iP (d.Facts.length:Int)),(14,iP v14)],[[hZ d.Facts,iP d.Stored,iP d.Owner]]⟩) 0 e (fun _=>rfl) ?_
 rintro n v14 e ih
 replace e:=(FZ.eq_2 ..).symm.trans e
 refine cD 1 [] e (fun hc14 e=>?_) fun hc14 e=>?_
 obtain⟨x,hx,e⟩:=Ad e
 refine mE 2 [(0,fi EJ hx)] e (fun v55=>⟨[(1,iP known),(2,.ptr 0 0),(4,iP 0),(12,hZ d.Facts),(13,iP (d.Facts.length:Int)),(14,iP v14),(55,bP v55)],[[hZ d.Facts,iP d.Stored,iP d.Owner],[iP x.Kind,iP x.Who,iP x.Day,iP x.Known]]⟩) ?_ fun y2 e2 hJ2=>?_
 rintro v55 e
 refine cD 0 [] e (fun hc6 e=>?_) fun hc6 e=>?_
 cases e
 cases h
 exact rt 1 [] hQ
 exact mJ 1 [] (ih _ e)
 rcases An e2 with⟨hc7,e2⟩|⟨hc7,e2⟩
 exact mJ 1 [(3,fo hc7)] (hJ2 _ (oj e2))
 rcases An e2 with⟨hc8,e2⟩|⟨hc8,e2⟩
 exact mJ 1 [(3,fo hc7),(4,fo hc8)] (hJ2 _ (oj e2))
 rcases An e2 with⟨hc9,e2⟩|⟨hc9,e2⟩
 exact mJ 1 [(3,fo hc7),(4,fo hc8),(4,fo hc9)] (hJ2 _ (oj e2))
 rcases An e2 with⟨hc10,e2⟩|⟨hc10,e2⟩
 exact mJ 1 [(3,fo hc7),(4,fo hc8),(4,fo hc9),(4,fo hc10)] (hJ2 _ (oj e2))
 rcases An e2 with⟨hc11,e2⟩|⟨hc11,e2⟩
 exact mJ 1 [(3,fo hc7),(4,fo hc8),(4,fo hc9),(4,fo hc10),(4,fo hc11)] (hJ2 _ (oj e2))
 rcases An e2 with⟨hc12,e2⟩|⟨hc12,e2⟩
 exact mJ 1 [(3,fo hc7),(4,fo hc8),(4,fo hc9),(4,fo hc10),(4,fo hc11),(4,fo hc12)] (hJ2 _ (oj e2))
 rcases An e2 with⟨hc13,e2⟩|⟨hc13,e2⟩
 exact mJ 1 [(3,fo hc7),(4,fo hc8),(4,fo hc9),(4,fo hc10),(4,fo hc11),(4,fo hc12),(4,fo hc13)] (hJ2 _ (oj e2))
 exact mJ 1 [(3,fo hc7),(4,fo hc8),(4,fo hc9),(4,fo hc10),(4,fo hc11),(4,fo hc12),(4,fo hc13)] (hJ2 _ (oj e2))
 exact mJ 1 [] (hJ _ (oj e))
theorem GN (n:Nat)(e:Aa)(d:BG)(known:Int)(r:(Int×Int))(h:Gl n e d known=some r):CZ Tryz.prog 11 [.agg [iP e.Op,iP e.N,tP e.S,hX e.Kids,iP e.At],.agg [hZ d.Facts,iP d.Stored,iP d.Owner],iP known] (.tup [iP r.1,iP r.2]):=by
 unfold Gl at h
 refine vP ⟨[0,1,2,3,4,6,7,8,11,12,23,30],[(4,[9999,0,0,1,2,3])]⟩ Tryz.func11 follows fun Q hQ=>?_
 obtain⟨u,hu,h⟩:=Ad h
 obtain⟨f,hf,h⟩:=Ad h
 refine cD 4 [(4,fk OU),(4,fk (C9 _ _ hf))] h (fun hc1 h=>?_) fun hc1 h=>?_
 cases h
 exact rt 1 [] hQ
 obtain⟨x,hx,h⟩:=Ad h
 refine cD 2 [(2,fk (Lm _ _ _ _ hx))] h (fun hc h=>?_) fun hc h=>?_
 cases h
 exact rt 1 [] hQ
 obtain⟨v_,hv_,h⟩:=Ad h
 cases h
 exact rt 1 [(5,fk (RZ _ _ _ hv_))] hQ
theorem Nw (c:Int)(r:Bool)(h:DG c=some r):CZ Tryz.prog 73 [uP c] (bP r):=by
 unfold DG at h
 refine vP ⟨[0,2],[]⟩ Tryz.func73 follows fun Q hQ=>?_
 refine mE 1 [] h (fun v2=>⟨[(2,bP v2)],[]⟩) ?_ fun y e hJ=>?_
 rintro v2 h
 cases h
 exact rt 0 [] hQ
 rcases An e with⟨hc,e⟩|⟨hc,e⟩
 rcases An e with⟨hc1,e⟩|⟨hc1,e⟩
 exact mJ 1 [(2,fo hc),(3,fo hc1)] (hJ _ (oj e))
 rcases An e with⟨hc2,e⟩|⟨hc2,e⟩
 rcases An e with⟨hc3,e⟩|⟨hc3,e⟩
 exact mJ 1 [(2,fo hc),(3,fo hc1),(2,fo hc2),(4,fo hc3)] (hJ _ (oj e))
 rcases An e with⟨hc4,e⟩|⟨hc4,e⟩
 exact mJ 1 [(2,fo hc),(3,fo hc1),(2,fo hc2),(4,fo hc3),(3,fo hc4)] (hJ _ (oj e))
 rcases An e with⟨hc5,e⟩|⟨hc5,e⟩
 exact mJ 1 [(2,fo hc),(3,fo hc1),(2,fo hc2),(4,fo hc3),(3,fo hc4),(2,fo hc5)] (hJ _ (oj e))
 exact mJ 1 [(2,fo hc),(3,fo hc1),(2,fo hc2),(4,fo hc3),(3,fo hc4),(2,fo hc5)] (hJ _ (oj e))
 rcases An e with⟨hc6,e⟩|⟨hc6,e⟩
 exact mJ 1 [(2,fo hc),(3,fo hc1),(2,fo hc2),(8,fo hc6)] (hJ _ (oj e))
 rcases An e with⟨hc7,e⟩|⟨hc7,e⟩
 exact mJ 1 [(2,fo hc),(3,fo hc1),(2,fo hc2),(8,fo hc6),(2,fo hc7)] (hJ _ (oj e))
 exact mJ 1 [(2,fo hc),(3,fo hc1),(2,fo hc2),(8,fo hc6),(2,fo hc7)] (hJ _ (oj e))
 rcases An e with⟨hc8,e⟩|⟨hc8,e⟩
 rcases An e with⟨hc9,e⟩|⟨hc9,e⟩
 exact mJ 1 [(2,fo hc),(6,fo hc8),(4,fo hc9)] (hJ _ (oj e))
 rcases An e with⟨hc10,e⟩|⟨hc10,e⟩
 exact mJ 1 [(2,fo hc),(6,fo hc8),(4,fo hc9),(3,fo hc10)] (hJ _ (oj e))
 rcases An e with⟨hc11,e⟩|⟨hc11,e⟩
 exact mJ 1 [(2,fo hc),(6,fo hc8),(4,fo hc9),(3,fo hc10),(2,fo hc11)] (hJ _ (oj e))
 exact mJ 1 [(2,fo hc),(6,fo hc8),(4,fo hc9),(3,fo hc10),(2,fo hc11)] (hJ _ (oj e))
 rcases An e with⟨hc12,e⟩|⟨hc12,e⟩
 exact mJ 1 [(2,fo hc),(6,fo hc8),(8,fo hc12)] (hJ _ (oj e))
 rcases An e with⟨hc13,e⟩|⟨hc13,e⟩
 exact mJ 1 [(2,fo hc),(6,fo hc8),(8,fo hc12),(2,fo hc13)] (hJ _ (oj e))
 exact mJ 1 [(2,fo hc),(6,fo hc8),(8,fo hc12),(2,fo hc13)] (hJ _ (oj e))
theorem Jv (n:Nat)(s:(List Int))(r:Int)(h:Dr n s=some r):CZ Tryz.prog 123 [hP s J0,.fno true 73 []] (iP r):=by
 unfold Dr at h
 refine vP ⟨[0,1,4,5,7,8,9,16],[]⟩ Tryz.func123 follows fun Q hQ=>?_
 refine mI 2 [(2,fl Pc s)] h (fun _=>⟨[(4,iP 0)],[]⟩) ?_ fun y e h hJ=>?_
 rintro _ h
 cases h
 exact rt 1 [] hQ
 refine lF 1 [] (A:=Int) (fun n v8=>AO n s v8) (fun v8=>⟨[(0,hP s J0),(1,.fno true 73 []),(4,iP 0),(7,iP (s.length:Int)),(8,iP v8)],[]⟩) 0 e (fun _=>rfl) ?_
 rintro n v8 e ih
 replace e:=(AO.eq_2 ..).symm.trans e
 refine cD 1 [] e (fun hc1 e=>?_) fun hc1 e=>?_
 obtain⟨x,hx,e⟩:=Ad e
 obtain⟨i,hi,e⟩:=Ad e
 refine cD 3 [(5,fi Pc hx),(1,fk (Nw _ _ hi))] e (fun hc e=>?_) fun hc e=>?_
 cases e
 cases h
 exact rt 1 [] hQ
 exact mJ 1 [] (ih _ e)
 exact mJ 1 [] (hJ _ (oj e))
theorem I5 (n:Nat)(s:(List Int))(r:Bool)(h:Cx n s=some r):CZ Tryz.prog 72 [hP s J0,.fno true 73 []] (bP r):=by
 unfold Cx at h
 refine vP ⟨[0,1,4],[]⟩ Tryz.func72 follows fun Q hQ=>?_
 obtain⟨i,hi,h⟩:=Ad h
 cases h
 exact rt 2 [(3,fk (Jv _ _ _ hi))] hQ
theorem P3 (n:Nat)(s:Â)(r:Bool)(h:ED n s=some r):CZ Tryz.prog 45 [tP s] (bP r):=by
 unfold ED at h
 refine vP ⟨[0,2,19],[(3,[9996,1])]⟩ Tryz.func45 follows fun Q hQ=>?_
 refine mE 1 [] h (fun v19=>⟨[(0,tP s),(2,bP false),(19,bP v19)],[]⟩) ?_ fun y e hJ=>?_
 rintro v19 h
 refine cD 0 [] h (fun hc1 h=>?_) fun hc1 h=>?_
 cases h
 exact rt 1 [] hQ
 obtain⟨b,hb,h⟩:=Ad h
 obtain⟨c,hc,h⟩:=Ad h
 refine xV 1 [.no] (hP b J0) [.call (bP c),.no,.no] ⟨[(2,bP (!c))],[]⟩ (And.intro True.intro (And.intro (Agg hb (fun _=>rfl)) (And.intro (I5 n b c hc) True.intro))) ?_
 cases h
 exact rt 0 [] hQ
 rcases An e with⟨hc2,e⟩|⟨hc2,e⟩
 exact mJ 1 [(2,fo hc2)] (hJ _ (oj e))
 rcases An e with⟨hc3,e⟩|⟨hc3,e⟩
 exact mJ 1 [(2,fo hc2),(4,fo hc3)] (hJ _ (oj e))
 obtain⟨c1,hc11,e⟩:=Ad e
 rcases An e with⟨hc4,e⟩|⟨hc4,e⟩
 exact mJ 1 [(2,fo hc2),(4,fo hc3),(1,fb hc11),(1,fo hc4),(1,fb hc11)] (hJ _ (oj e))
 exact mJ 1 [(2,fo hc2),(4,fo hc3),(1,fb hc11),(1,fo hc4)] (hJ _ (oj e))
theorem M1 (c:Â)(c1:Int)(c2:Int)(c3:Int)(c4:Int)(c5:Int)(c6:Â)(c7:(List Aa))(c8:Int)(c9:Int)(c10:Int)(c11:Â)(c12:(List Aa))(c13:Int)(c14:Int)(c15:Int)(c16:Â)(c17:(List Aa))(c18:Int)(c19:Int)(x:Ag)(r:Bool)(h:DL c c1 c2 c3 c4 c5 c6 c7 c8 c9 c10 c11 c12 c13 c14 c15 c16 c17 c18 c19 x=some r):M9 Tryz.prog 46 [.agg [tP x.Name,iP x.Kind,iP x.Rank,iP x.Known,iP x.From.Op,iP x.From.N,tP x.From.S,hX x.From.Kids,iP x.From.At,iP x.To.Op,iP x.To.N,tP x.To.S,hX x.To.Kids,iP x.To.At,iP x.When.Op,iP x.When.N,tP x.When.S,hX x.When.Kids,iP x.When.At,iP x.Houses],.ptr 1 0] [[Bp,Dw],[tP c,iP c1,iP c2,iP c3,iP c4,iP c5,tP c6,hX c7,iP c8,iP c9,iP c10,tP c11,hX c12,iP c13,iP c14,iP c15,tP c16,hX c17,iP c18,iP c19]] (.ret (bP r)) [[Bp,Dw],[tP c,iP c1,iP c2,iP c3,iP c4,iP c5,tP c6,hX c7,iP c8,iP c9,iP c10,tP c11,hX c12,iP c13,iP c14,iP c15,tP c16,hX c17,iP c18,iP c19]]:=by
 unfold DL at h
 refine vS ⟨[0,1,2,3],[]⟩ Tryz.func46 follows fun Q hQ=>?_
 cases h
 exact rt 2 [] hQ
theorem I4 (n:Nat)(c:Â)(c1:Int)(c2:Int)(c3:Int)(c4:Int)(c5:Int)(c6:Â)(c7:(List Aa))(c8:Int)(c9:Int)(c10:Int)(c11:Â)(c12:(List Aa))(c13:Int)(c14:Int)(c15:Int)(c16:Â)(c17:(List Aa))(c18:Int)(c19:Int)(s:(List Ag))(r:Int)(h:CU n c c1 c2 c3 c4 c5 c6 c7 c8 c9 c10 c11 c12 c13 c14 c15 c16 c17 c18 c19 s=some r):M9 Tryz.prog 71 [hC s,.fn 46 [.ptr 1 0]] [[Bp,Dw],[tP c,iP c1,iP c2,iP c3,iP c4,iP c5,tP c6,hX c7,iP c8,iP c9,iP c10,tP c11,hX c12,iP c13,iP c14,iP c15,tP c16,hX c17,iP c18,iP c19]] (.ret (iP r)) [[Bp,Dw],[tP c,iP c1,iP c2,iP c3,iP c4,iP c5,tP c6,hX c7,iP c8,iP c9,iP c10,tP c11,hX c12,iP c13,iP c14,iP c15,tP c16,hX c17,iP c18,iP c19]]:=by
 unfold CU at h
 refine vS ⟨[0,1,4,5,7,8,9,16],[]⟩ Tryz.func71 follows fun Q hQ=>?_
 refine mI 2 [(2,fl Ak s)] h (fun _=>⟨[(4,iP 0)],[[Bp,Dw],[tP c,iP c1,iP c2,iP c3,iP c4,iP c5,tP c6,hX c7,iP c8,iP c9,iP c10,tP c11,hX c12,iP c13,iP c14,iP c15,tP c16,hX c17,iP c18,iP c19]]⟩) ?_ fun y e h hJ=>?_
 rintro _ h
 cases h
 exact rt 1 [] hQ
 refine lF 1 [] (A:=Int) (fun n v8=>AH n s c c1 c2 c3 c4 c5 c6 c7 c8 c9 c10 c11 c12 c13 c14 c15 c16 c17 c18 c19 v8) (fun v8=>⟨[(0,hC s),(1,.fn 46 [.ptr 1 0]),(4,iP 0),(7,iP (s.length:Int)),(8,iP v8)],[[Bp,Dw],[tP c,iP c1,iP c2,iP c3,iP c4,iP c5,tP c6,hX c7,iP c8,iP c9,iP c10,tP c11,hX c12,iP c13,iP c14,iP c15,tP c16,hX c17,iP c18,iP c19]]⟩) 0 e (fun _=>rfl) ?_
 rintro n v8 e ih
 replace e:=(AH.eq_2 ..).symm.trans e
 refine cD 1 [] e (fun hc1 e=>?_) fun hc1 e=>?_
 obtain⟨x,hx,e⟩:=Ad e
 obtain⟨c20,hc20,e⟩:=Ad e
 refine cD 3 [(5,fi Ak hx),(1,fs (M1 _ _ _ _ _ _ _ _ _ _ _ _ _ _ _ _ _ _ _ _ _ _ hc20))] e (fun hc e=>?_) fun hc e=>?_
 cases e
 cases h
 exact rt 1 [] hQ
 exact mJ 1 [] (ih _ e)
 exact mJ 1 [] (hJ _ (oj e))
theorem Hn (n:Nat)(c:Â)(c1:Int)(c2:Int)(c3:Int)(c4:Int)(c5:Int)(c6:Â)(c7:(List Aa))(c8:Int)(c9:Int)(c10:Int)(c11:Â)(c12:(List Aa))(c13:Int)(c14:Int)(c15:Int)(c16:Â)(c17:(List Aa))(c18:Int)(c19:Int)(s:(List Ag))(r:Bool)(h:B2 n c c1 c2 c3 c4 c5 c6 c7 c8 c9 c10 c11 c12 c13 c14 c15 c16 c17 c18 c19 s=some r):M9 Tryz.prog 42 [hC s,.fn 46 [.ptr 1 0]] [[Bp,Dw],[tP c,iP c1,iP c2,iP c3,iP c4,iP c5,tP c6,hX c7,iP c8,iP c9,iP c10,tP c11,hX c12,iP c13,iP c14,iP c15,tP c16,hX c17,iP c18,iP c19]] (.ret (bP r)) [[Bp,Dw],[tP c,iP c1,iP c2,iP c3,iP c4,iP c5,tP c6,hX c7,iP c8,iP c9,iP c10,tP c11,hX c12,iP c13,iP c14,iP c15,tP c16,hX c17,iP c18,iP c19]]:=by
 unfold B2 at h
 refine vS ⟨[0,1,4],[]⟩ Tryz.func42 follows fun Q hQ=>?_
 obtain⟨c20,hc20,h⟩:=Ad h
 cases h
 exact rt 2 [(3,fs (I4 _ _ _ _ _ _ _ _ _ _ _ _ _ _ _ _ _ _ _ _ _ _ _ hc20))] hQ
theorem MP (c:Â)(c1:Int)(c2:Int)(c3:Int)(c4:Int)(c5:Int)(c6:Â)(c7:(List Aa))(c8:Int)(c9:Int)(c10:Int)(c11:Â)(c12:(List Aa))(c13:Int)(c14:Int)(c15:Int)(c16:Â)(c17:(List Aa))(c18:Int)(c19:Int)(r:Unit)(h:Ee c c1 c2 c3 c4 c5 c6 c7 c8 c9 c10 c11 c12 c13 c14 c15 c16 c17 c18 c19=some r):M9 Tryz.prog 38 [.ptr 1 0] [[Bp,Dw],[tP c,iP c1,iP c2,iP c3,iP c4,iP c5,tP c6,hX c7,iP c8,iP c9,iP c10,tP c11,hX c12,iP c13,iP c14,iP c15,tP c16,hX c17,iP c18,iP c19]] (.ret (.tup [.agg [.ptr 1 4,.ptr 1 9,.ptr 1 14],.agg [iP 2,iP 2,iP 3]])) [[Bp,Dw],[tP c,iP c1,iP c2,iP c3,iP c4,iP c5,tP c6,hX c7,iP c8,iP c9,iP c10,tP c11,hX c12,iP c13,iP c14,iP c15,tP c16,hX c17,iP c18,iP c19]]:=by
 unfold Ee at h
 refine vS ⟨[0,2,3],[(1,[9999,0,0,1,2,3,4,5,6,7,8,9,10,11,12])]⟩ Tryz.func38 follows fun Q hQ=>?_
 cases h
 exact rt 2 [] hQ
theorem EB (n:Nat)(l:(List Ag))(r:Int)(h:DD n l=some r):CZ Tryz.prog 20 [hC l] (iP r):=by
 unfold DD at h
 refine vP ⟨[0,2,3,4,5,6,7,8,9,10,11,13,16,18,19,20,21,28,33,39,48,93,94,95,109,116],[(20,[9995])]⟩ Tryz.func20 follows fun Q hQ=>?_
 refine cD 2 [(2,fl Ak l)] h (fun hc27 h=>?_) fun hc27 h=>?_
 cases h
 exact rt 1 [] hQ
 obtain⟨u,hu,h⟩:=Ad h
 refine mI 2 [(0,fk OU),(3,fl Ak l)] h (fun _=>⟨[(2,iP 0)],[[Bp,Dw]]⟩) ?_ fun y e h hJ=>?_
 rintro _ h
 cases h
 exact rt 1 [] hQ
 refine lF 1 [] (A:=Int) (fun n v20=>CE n l v20) (fun v20=>⟨[(0,hC l),(2,iP 0),(3,.ptr 0 0),(18,hC l),(19,iP (l.length:Int)),(20,iP v20)],[[Bp,Dw]]⟩) 0 e (fun _=>rfl) ?_
 rintro n v20 e ih
 replace e:=(CE.eq_2 ..).symm.trans e
 refine cD 1 [] e (fun hc26 e=>?_) fun hc26 e=>?_
 obtain⟨x,hx,e⟩:=Ad e
 obtain⟨i,hi,e⟩:=Ad e
 refine cD 5 [(1,fi Ak hx),(10,fk (P3 _ _ _ hi))] e (fun hc25 e=>?_) fun hc25 e=>?_
 cases e
 cases h
 exact rt 1 [] hQ
 obtain⟨l1,hl1,e⟩:=Ad e
 obtain⟨c,hc,e⟩:=Ad e
 refine cD 1 [(2,fsl Ak hl1),(1,fs (Hn _ _ _ _ _ _ _ _ _ _ _ _ _ _ _ _ _ _ _ _ _ _ _ hc))] e (fun hc24 e=>?_) fun hc24 e=>?_
 cases e
 cases h
 exact rt 1 [] hQ
 refine mE 0 [] e (fun v39=>⟨[(0,hC l),(2,iP 0),(3,.ptr 0 0),(5,.ptr 1 0),(6,bP (x.Kind == 3)),(18,hC l),(19,iP (l.length:Int)),(20,iP v20),(39,bP v39)],[[Bp,Dw],[tP x.Name,iP x.Kind,iP x.Rank,iP x.Known,iP x.From.Op,iP x.From.N,tP x.From.S,hX x.From.Kids,iP x.From.At,iP x.To.Op,iP x.To.N,tP x.To.S,hX x.To.Kids,iP x.To.At,iP x.When.Op,iP x.When.N,tP x.When.S,hX x.When.Kids,iP x.When.At,iP x.Houses]]⟩) ?_ fun y1 e1 hJ1=>?_
 rintro v39 e
 refine cD 0 [] e (fun hc22 e=>?_) fun hc22 e=>?_
 cases e
 cases h
 exact rt 1 [] hQ
 refine mE 0 [] e (fun v48=>⟨[(0,hC l),(2,iP 0),(3,.ptr 0 0),(5,.ptr 1 0),(18,hC l),(19,iP (l.length:Int)),(20,iP v20),(48,bP v48)],[[Bp,Dw],[tP x.Name,iP x.Kind,iP x.Rank,iP x.Known,iP x.From.Op,iP x.From.N,tP x.From.S,hX x.From.Kids,iP x.From.At,iP x.To.Op,iP x.To.N,tP x.To.S,hX x.To.Kids,iP x.To.At,iP x.When.Op,iP x.When.N,tP x.When.S,hX x.When.Kids,iP x.When.At,iP x.Houses]]⟩) ?_ fun y2 e2 hJ2=>?_
 rintro v48 e
 refine cD 0 [] e (fun hc11 e=>?_) fun hc11 e=>?_
 cases e
 cases h
 exact rt 1 [] hQ
 obtain⟨w,hw,e⟩:=Ad e
 refine mI 2 [(0,fs (MP _ _ _ _ _ _ _ _ _ _ _ _ _ _ _ _ _ _ _ _ _ hw))] e (fun _=>⟨[(0,hC l),(2,iP 0),(3,.ptr 0 0),(18,hC l),(19,iP (l.length:Int)),(20,iP v20)],[[Bp,Dw],[tP x.Name,iP x.Kind,iP x.Rank,iP x.Known,iP x.From.Op,iP x.From.N,tP x.From.S,hX x.From.Kids,iP x.From.At,iP x.To.Op,iP x.To.N,tP x.To.S,hX x.To.Kids,iP x.To.At,iP x.When.Op,iP x.When.N,tP x.When.S,hX x.When.Kids,iP x.When.At,iP x.Houses],[.ptr 1 4,.ptr 1 9,.ptr 1 14],[iP 2,iP 2,iP 3]]⟩) ?_ fun y3 e3 e hJ3=>?_
 rintro _ e
 exact mJ 1 [] (ih _ e)
 refine lF 1 [] (A:=Int) (fun n v94=>AD n x v94) (fun v94=>⟨[(0,hC l),(2,iP 0),(3,.ptr 0 0),(8,.ptr 3 0),(18,hC l),(19,iP (l.length:Int)),(20,iP v20),(93,.agg [.ptr 1 4,.ptr 1 9,.ptr 1 14]),(94,iP v94)],[[Bp,Dw],[tP x.Name,iP x.Kind,iP x.Rank,iP x.Known,iP x.From.Op,iP x.From.N,tP x.From.S,hX x.From.Kids,iP x.From.At,iP x.To.Op,iP x.To.N,tP x.To.S,hX x.To.Kids,iP x.To.At,iP x.When.Op,iP x.When.N,tP x.When.S,hX x.When.Kids,iP x.When.At,iP x.Houses],[.ptr 1 4,.ptr 1 9,.ptr 1 14],[iP 2,iP 2,iP 3]]⟩) 0 e3 (fun _=>rfl) ?_
 rintro n v94 e3 ih1
 replace e3:=(AD.eq_2 ..).symm.trans e3
 replace e3:=An e3
 rcases e3 with⟨hc8,e3⟩|⟨hc8,e3⟩
 obtain rfl:=Mb hc8
 obtain⟨f2,hf2,e3⟩:=Ad e3
 refine wl 4 [] ?_
 refine xE 6 [.no,.no,.no,.no,.call (.tup [iP f2.1,.agg [iP f2.2.1.op,tP f2.2.1.name,hI f2.2.1.args,iP f2.2.1.kind,.fno (LO f2.2.1.do_) (K4 f2.2.1.do_) (KM f2.2.1.do_)],.agg [iP f2.2.2.At,iP f2.2.2.E]]),.no,.no,.no,.no,.no,.no,.no,.no,.no] ⟨[(0,hC l),(2,iP 0),(3,.ptr 0 0),(8,.ptr 3 0),(9,iP 0),(11,iP f2.1),(13,.ptr 5 0),(18,hC l),(19,iP (l.length:Int)),(20,iP v20),(93,.agg [.ptr 1 4,.ptr 1 9,.ptr 1 14]),(94,iP 0)],[[Bp,Dw],[tP x.Name,iP x.Kind,iP x.Rank,iP x.Known,iP x.From.Op,iP x.From.N,tP x.From.S,hX x.From.Kids,iP x.From.At,iP x.To.Op,iP x.To.N,tP x.To.S,hX x.To.Kids,iP x.To.At,iP x.When.Op,iP x.When.N,tP x.When.S,hX x.When.Kids,iP x.When.At,iP x.Houses],[.ptr 1 4,.ptr 1 9,.ptr 1 14],[iP 2,iP 2,iP 3],[iP f2.2.1.op,tP f2.2.1.name,hI f2.2.1.args,iP f2.2.1.kind,.fno (LO f2.2.1.do_) (K4 f2.2.1.do_) (KM f2.2.1.do_)],[iP f2.2.2.At,iP f2.2.2.E]]⟩ (And.intro (And.intro (C9 x.From f2 hf2) (And.intro True.intro (And.intro (And.intro True.intro True.intro) True.intro))) (And.intro (And.intro (And.intro (C9 x.From f2 hf2) True.intro) (And.intro (And.intro (C9 x.From f2 hf2) True.intro) True.intro)) (And.intro (And.intro (And.intro (C9 x.From f2 hf2) (And.intro True.intro True.intro)) (And.intro (And.intro (C9 x.From f2 hf2) True.intro) True.intro)) True.intro))) ?_
 refine cD 1 [] e3 (fun hc10 e3=>?_) fun hc10 e3=>?_
 cases e3
 cases e
 cases h
 exact rt 1 [] hQ
 refine cD 1 [] e3 (fun hc9 e3=>?_) fun hc9 e3=>?_
 cases e3
 cases e
 cases h
 exact rt 1 [] hQ
 exact mJ 1 [] (ih1 _ e3)
 replace e3:=An e3
 rcases e3 with⟨hc5,e3⟩|⟨hc5,e3⟩
 obtain rfl:=Mb hc5
 obtain⟨f1,hf1,e3⟩:=Ad e3
 refine wl 4 [] ?_
 refine xE 6 [.no,.no,.no,.no,.call (.tup [iP f1.1,.agg [iP f1.2.1.op,tP f1.2.1.name,hI f1.2.1.args,iP f1.2.1.kind,.fno (LO f1.2.1.do_) (K4 f1.2.1.do_) (KM f1.2.1.do_)],.agg [iP f1.2.2.At,iP f1.2.2.E]]),.no,.no,.no,.no,.no,.no,.no,.no,.no] ⟨[(0,hC l),(2,iP 0),(3,.ptr 0 0),(8,.ptr 3 0),(9,iP 1),(11,iP f1.1),(13,.ptr 5 0),(18,hC l),(19,iP (l.length:Int)),(20,iP v20),(93,.agg [.ptr 1 4,.ptr 1 9,.ptr 1 14]),(94,iP 1)],[[Bp,Dw],[tP x.Name,iP x.Kind,iP x.Rank,iP x.Known,iP x.From.Op,iP x.From.N,tP x.From.S,hX x.From.Kids,iP x.From.At,iP x.To.Op,iP x.To.N,tP x.To.S,hX x.To.Kids,iP x.To.At,iP x.When.Op,iP x.When.N,tP x.When.S,hX x.When.Kids,iP x.When.At,iP x.Houses],[.ptr 1 4,.ptr 1 9,.ptr 1 14],[iP 2,iP 2,iP 3],[iP f1.2.1.op,tP f1.2.1.name,hI f1.2.1.args,iP f1.2.1.kind,.fno (LO f1.2.1.do_) (K4 f1.2.1.do_) (KM f1.2.1.do_)],[iP f1.2.2.At,iP f1.2.2.E]]⟩ (And.intro (And.intro (C9 x.To f1 hf1) (And.intro True.intro (And.intro (And.intro True.intro True.intro) True.intro))) (And.intro (And.intro (And.intro (C9 x.To f1 hf1) True.intro) (And.intro (And.intro (C9 x.To f1 hf1) True.intro) True.intro)) (And.intro (And.intro (And.intro (C9 x.To f1 hf1) (And.intro True.intro True.intro)) (And.intro (And.intro (C9 x.To f1 hf1) True.intro) True.intro)) True.intro))) ?_
 refine cD 1 [] e3 (fun hc7 e3=>?_) fun hc7 e3=>?_
 cases e3
 cases e
 cases h
 exact rt 1 [] hQ
 refine cD 1 [] e3 (fun hc6 e3=>?_) fun hc6 e3=>?_
 cases e3
 cases e
 cases h
 exact rt 1 [] hQ
 exact mJ 1 [] (ih1 _ e3)
 replace e3:=An e3
 rcases e3 with⟨hc2,e3⟩|⟨hc2,e3⟩
 obtain rfl:=Mb hc2
 obtain⟨f,hf,e3⟩:=Ad e3
 refine wl 4 [] ?_
 refine xE 6 [.no,.no,.no,.no,.call (.tup [iP f.1,.agg [iP f.2.1.op,tP f.2.1.name,hI f.2.1.args,iP f.2.1.kind,.fno (LO f.2.1.do_) (K4 f.2.1.do_) (KM f.2.1.do_)],.agg [iP f.2.2.At,iP f.2.2.E]]),.no,.no,.no,.no,.no,.no,.no,.no,.no] ⟨[(0,hC l),(2,iP 0),(3,.ptr 0 0),(8,.ptr 3 0),(9,iP 2),(11,iP f.1),(13,.ptr 5 0),(18,hC l),(19,iP (l.length:Int)),(20,iP v20),(93,.agg [.ptr 1 4,.ptr 1 9,.ptr 1 14]),(94,iP 2)],[[Bp,Dw],[tP x.Name,iP x.Kind,iP x.Rank,iP x.Known,iP x.From.Op,iP x.From.N,tP x.From.S,hX x.From.Kids,iP x.From.At,iP x.To.Op,iP x.To.N,tP x.To.S,hX x.To.Kids,iP x.To.At,iP x.When.Op,iP x.When.N,tP x.When.S,hX x.When.Kids,iP x.When.At,iP x.Houses],[.ptr 1 4,.ptr 1 9,.ptr 1 14],[iP 2,iP 2,iP 3],[iP f.2.1.op,tP f.2.1.name,hI f.2.1.args,iP f.2.1.kind,.fno (LO f.2.1.do_) (K4 f.2.1.do_) (KM f.2.1.do_)],[iP f.2.2.At,iP f.2.2.E]]⟩ (And.intro (And.intro (C9 x.When f hf) (And.intro True.intro (And.intro (And.intro True.intro True.intro) True.intro))) (And.intro (And.intro (And.intro (C9 x.When f hf) True.intro) (And.intro (And.intro (C9 x.When f hf) True.intro) True.intro)) (And.intro (And.intro (And.intro (C9 x.When f hf) (And.intro True.intro True.intro)) (And.intro (And.intro (C9 x.When f hf) True.intro) True.intro)) True.intro))) ?_
 refine cD 1 [] e3 (fun hc4 e3=>?_) fun hc4 e3=>?_
 cases e3
 cases e
 cases h
 exact rt 1 [] hQ
 refine cD 1 [] e3 (fun hc3 e3=>?_) fun hc3 e3=>?_
 cases e3
 cases e
 cases h
 exact rt 1 [] hQ
 exact mJ 1 [] (ih1 _ e3)
 replace e3:=An e3
 rcases e3 with⟨hc1,e3⟩|⟨hc1,e3⟩
 obtain rfl:=Mb hc1
 exact mJ 3 [] (hJ3 _ (oj e3))
 cases e3
 rcases An e2 with⟨hc12,e2⟩|⟨hc12,e2⟩
 exact mJ 1 [(3,fo hc12)] (hJ2 _ (oj e2))
 rcases An e2 with⟨hc13,e2⟩|⟨hc13,e2⟩
 exact mJ 1 [(3,fo hc12),(4,fo hc13)] (hJ2 _ (oj e2))
 rcases An e2 with⟨hc14,e2⟩|⟨hc14,e2⟩
 exact mJ 1 [(3,fo hc12),(4,fo hc13),(4,fo hc14)] (hJ2 _ (oj e2))
 rcases An e2 with⟨hc15,e2⟩|⟨hc15,e2⟩
 exact mJ 1 [(3,fo hc12),(4,fo hc13),(4,fo hc14),(4,fo hc15)] (hJ2 _ (oj e2))
 rcases An e2 with⟨hc16,e2⟩|⟨hc16,e2⟩
 rcases An e2 with⟨hc17,e2⟩|⟨hc17,e2⟩
 exact mJ 1 [(3,fo hc12),(4,fo hc13),(4,fo hc14),(4,fo hc15),(2,fo hc16),(5,fo hc17)] (hJ2 _ (oj e2))
 rcases An e2 with⟨hc18,e2⟩|⟨hc18,e2⟩
 rcases An e2 with⟨hc19,e2⟩|⟨hc19,e2⟩
 exact mJ 1 [(3,fo hc12),(4,fo hc13),(4,fo hc14),(4,fo hc15),(2,fo hc16),(5,fo hc17),(1,fo hc18),(3,fo hc19)] (hJ2 _ (oj e2))
 exact mJ 1 [(3,fo hc12),(4,fo hc13),(4,fo hc14),(4,fo hc15),(2,fo hc16),(5,fo hc17),(1,fo hc18),(3,fo hc19)] (hJ2 _ (oj e2))
 exact mJ 1 [(3,fo hc12),(4,fo hc13),(4,fo hc14),(4,fo hc15),(2,fo hc16),(5,fo hc17),(1,fo hc18)] (hJ2 _ (oj e2))
 rcases An e2 with⟨hc20,e2⟩|⟨hc20,e2⟩
 rcases An e2 with⟨hc21,e2⟩|⟨hc21,e2⟩
 exact mJ 1 [(3,fo hc12),(4,fo hc13),(4,fo hc14),(4,fo hc15),(2,fo hc16),(7,fo hc20),(3,fo hc21)] (hJ2 _ (oj e2))
 exact mJ 1 [(3,fo hc12),(4,fo hc13),(4,fo hc14),(4,fo hc15),(2,fo hc16),(7,fo hc20),(3,fo hc21)] (hJ2 _ (oj e2))
 exact mJ 1 [(3,fo hc12),(4,fo hc13),(4,fo hc14),(4,fo hc15),(2,fo hc16),(7,fo hc20)] (hJ2 _ (oj e2))
 rcases An e1 with⟨hc23,e1⟩|⟨hc23,e1⟩
 exact mJ 1 [(3,fo hc23)] (hJ1 _ (oj e1))
 exact mJ 1 [(3,fo hc23)] (hJ1 _ (oj e1))
 exact mJ 1 [] (hJ _ (oj e))
theorem H4 (n:Nat)(c:Ag)(d:BG)(known:Int)(r:(Int×Int×Bool×Int))(h:FY n c d known=some r):CZ Tryz.prog 13 [.agg [tP c.Name,iP c.Kind,iP c.Rank,iP c.Known,iP c.From.Op,iP c.From.N,tP c.From.S,hX c.From.Kids,iP c.From.At,iP c.To.Op,iP c.To.N,tP c.To.S,hX c.To.Kids,iP c.To.At,iP c.When.Op,iP c.When.N,tP c.When.S,hX c.When.Kids,iP c.When.At,iP c.Houses],.agg [hZ d.Facts,iP d.Stored,iP d.Owner],iP known] (.tup [iP r.1,iP r.2.1,bP r.2.2.1,iP r.2.2.2]):=by
 unfold FY at h
 refine vP ⟨[0,1,2,3,4,6,7,8,9,10,11,12,13,18,24],[(7,[9995]),(8,[9999,0,0,1,2,3,5,6,7,8,10,11,12,13,4,9,14,15,16,17,18,19,20,21,22,23,24,25])]⟩ Tryz.func13 follows fun Q hQ=>?_
 obtain⟨l,hl,h⟩:=Ad h
 obtain⟨e,he,h⟩:=Ad h
 refine cD 3 [(7,fB Ak hl),(0,fk (EB _ _ _ he))] h (fun hc2 h=>?_) fun hc2 h=>?_
 cases h
 exact rt 1 [] hQ
 obtain⟨e1,he1,h⟩:=Ad h
 refine cD 2 [(2,fk (Lm _ _ _ _ he1))] h (fun hc1 h=>?_) fun hc1 h=>?_
 cases h
 exact rt 1 [] hQ
 obtain⟨u,hu,h⟩:=Ad h
 refine xE 6 [.call (.agg [Bp,Dw]),.no,.no,.no,.no,.no,.no,.no] ⟨[(2,iP known),(3,.ptr 0 0),(6,iP 0),(7,iP 0),(8,bP false),(9,iP 0),(12,.ptr 2 0),(13,.ptr 3 0)],[[tP c.Name,iP c.Kind,iP c.Rank,iP c.Known,iP c.From.Op,iP c.From.N,tP c.From.S,hX c.From.Kids,iP c.From.At,iP c.To.Op,iP c.To.N,tP c.To.S,hX c.To.Kids,iP c.To.At,iP c.When.Op,iP c.When.N,tP c.When.S,hX c.When.Kids,iP c.When.At,iP c.Houses],[hZ d.Facts,iP d.Stored,iP d.Owner],[Bp,Dw],[hZ d.Facts,iP d.Stored,iP d.Owner,iP known]]⟩ (And.intro (And.intro OU (And.intro True.intro (And.intro (And.intro True.intro True.intro) True.intro))) (And.intro (And.intro (And.intro OU True.intro) (And.intro (And.intro OU True.intro) True.intro)) (And.intro (And.intro (And.intro OU (And.intro True.intro True.intro)) (And.intro (And.intro OU True.intro) True.intro)) True.intro))) ?_
 refine mE 0 [] h (fun (from_,to,applies)=>⟨[(6,iP from_),(7,iP to),(8,bP applies),(9,iP 0)],[[tP c.Name,iP c.Kind,iP c.Rank,iP c.Known,iP c.From.Op,iP c.From.N,tP c.From.S,hX c.From.Kids,iP c.From.At,iP c.To.Op,iP c.To.N,tP c.To.S,hX c.To.Kids,iP c.To.At,iP c.When.Op,iP c.When.N,tP c.When.S,hX c.When.Kids,iP c.When.At,iP c.Houses],[hZ d.Facts,iP d.Stored,iP d.Owner],[Bp,Dw],[hZ d.Facts,iP d.Stored,iP d.Owner,iP known]]⟩) ?_ fun y e2 hJ=>?_
 rintro⟨from_,to,applies⟩ h
 cases h
 exact rt 0 [] hQ
 obtain⟨from_1,hfrom_1,e2⟩:=Ad e2
 obtain⟨to1,hto1,e2⟩:=Ad e2
 rcases An e2 with⟨hc,e2⟩|⟨hc,e2⟩
 obtain⟨v_,hv_,e2⟩:=Ad e2
 exact mJ 1 [(12,fk (RZ _ _ _ hfrom_1)),(0,fk (RZ _ _ _ hto1)),(0,fo hc),(4,fk (RZ _ _ _ hv_))] (hJ _ (oj e2))
 exact mJ 1 [(12,fk (RZ _ _ _ hfrom_1)),(0,fk (RZ _ _ _ hto1)),(0,fo hc)] (hJ _ (oj e2))
end Go.Proofs.YtkcfmlfkfagejaaGreatDoor
