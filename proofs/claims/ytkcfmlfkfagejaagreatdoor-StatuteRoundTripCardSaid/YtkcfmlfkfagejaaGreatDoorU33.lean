/-
  The walks of chapter 33: Source and Compile: the program computes the plain functions. (Printed by lift.py.)
-/
import Derived.Test.YtkcfmlfkfagejaaGreatDoorU29
import Derived.Test.YtkcfmlfkfagejaaGreatDoorU32
set_option linter.unusedVariables false
set_option linter.unusedSimpArgs false
namespace Go.Proofs.YtkcfmlfkfagejaaGreatDoor
open Go.RowKit Go.Q Go.Vl Go.Sp
set_option maxRecDepth 100000
set_option linter.unusedSimpArgs false
set_option maxHeartbeats 4000000
set_option linter.unusedVariables false
theorem EA (r:(ByteArray×ByteArray×ByteArray×ByteArray))(h:Fe=some r):CZ Tryz.prog 37 [] (.agg [tP r.1,tP r.2.1,tP r.2.2.1,tP r.2.2.2]):=by
 unfold Fe at h
 refine vP ⟨[0],[]⟩ Tryz.func37 follows fun Q hQ=>?_
 cases h
 exact rt 2 [] hQ
theorem MO (c:Â)(c1:Int)(c2:Int)(c3:Int)(c4:Int)(c5:Int)(c6:Â)(c7:(List Aa))(c8:Int)(c9:Int)(c10:Int)(c11:Â)(c12:(List Aa))(c13:Int)(c14:Int)(c15:Int)(c16:Â)(c17:(List Aa))(c18:Int)(c19:Int)(f:Â)(f1:(List Ao))(f2:(List Ai))(f3:Int)(r:Unit)(h:F1 c c1 c2 c3 c4 c5 c6 c7 c8 c9 c10 c11 c12 c13 c14 c15 c16 c17 c18 c19 f f1 f2 f3=some r):M9 Tryz.prog 38 [.ptr 0 0] [[tP c,iP c1,iP c2,iP c3,iP c4,iP c5,tP c6,hX c7,iP c8,iP c9,iP c10,tP c11,hX c12,iP c13,iP c14,iP c15,tP c16,hX c17,iP c18,iP c19],[tP f,.sl (f1.map CS) .full,oF f2,iP f3]] (.ret (.tup [.agg [.ptr 0 4,.ptr 0 9,.ptr 0 14],.agg [iP 2,iP 2,iP 3]])) [[tP c,iP c1,iP c2,iP c3,iP c4,iP c5,tP c6,hX c7,iP c8,iP c9,iP c10,tP c11,hX c12,iP c13,iP c14,iP c15,tP c16,hX c17,iP c18,iP c19],[tP f,.sl (f1.map CS) .full,oF f2,iP f3]]:=by
 unfold F1 at h
 refine vS ⟨[0,2,3],[(1,[9999,0,0,1,2,3,4,5,6,7,8,9,10,11,12])]⟩ Tryz.func38 follows fun Q hQ=>?_
 cases h
 exact rt 2 [] hQ
theorem HT (n:Nat)(l:(List Ag))(r:(ByteArray×Int))(h:BP n l=some r):CZ Tryz.prog 17 [hC l] (.tup [tP r.1,iP r.2]):=by
 unfold BP at h
 refine vP ⟨[0,2,3,4,5,7,8,9,12,13,17,19,20,21,22,44,45,46,60,67,68,75],[(8,[9995]),(13,[9999,0,0,1,2,3,4,5,6,7,8,9])]⟩ Tryz.func17 follows fun Q hQ=>?_
 obtain⟨e,he,h⟩:=Ad h
 refine cD 3 [(3,fk (EB _ _ _ he))] h (fun hc8 h=>?_) fun hc8 h=>?_
 cases h
 exact rt 1 [] hQ
 refine mE 2 [(2,fl Ak l)] h (fun forms=>⟨[(2,tP ⟨#[]⟩),(3,iP 0),(5,oF forms)],[]⟩) ?_ fun y e1 hJ=>?_
 rintro forms h
 obtain⟨p,hp,h⟩:=Ad h
 cases h
 exact rt 1 [(1,fk (Tf _ _ _ hp))] hQ
 refine lF 1 [] (A:=((List Ai)×Int)) (fun n (forms1,v21)=>Cg n l forms1 v21) (fun (forms1,v21)=>⟨[(2,tP ⟨#[]⟩),(3,iP 0),(5,oF forms1),(19,hC l),(20,iP (l.length:Int)),(21,iP v21)],[]⟩) ([],0) e1 (fun _=>rfl) ?_
 rintro n ⟨forms1,v21⟩ e1 ih
 replace e1:=(Cg.eq_2 ..).symm.trans e1
 refine cD 1 [] e1 (fun hc7 e1=>?_) fun hc7 e1=>?_
 obtain⟨x,hx,e1⟩:=Ad e1
 obtain⟨w,hw,e1⟩:=Ad e1
 obtain⟨x1,hx1,e1⟩:=Ad e1
 obtain⟨l1,hl1,e1⟩:=Ad e1
 refine wl 2 [(0,fi Ak hx)] ?_
 refine xE 6 [.call (.agg [tP w.1,tP w.2.1,tP w.2.2.1,tP w.2.2.2]),.no,.no,.val (tP x1),.no,.no,.no,.no,.no,.no,.no,.no,.no,.val (.sl (l1.map CS) .full),.no,.no,.no] ⟨[(2,tP ⟨#[]⟩),(3,iP 0),(5,oF forms1),(7,.ptr 0 0),(8,.ptr 1 0),(19,hC l),(20,iP (l.length:Int)),(21,iP v21)],[[tP x.Name,iP x.Kind,iP x.Rank,iP x.Known,iP x.From.Op,iP x.From.N,tP x.From.S,hX x.From.Kids,iP x.From.At,iP x.To.Op,iP x.To.N,tP x.To.S,hX x.To.Kids,iP x.To.At,iP x.When.Op,iP x.When.N,tP x.When.S,hX x.When.Kids,iP x.When.At,iP x.Houses],[tP x1,.sl (l1.map CS) .full,.sl [] .own,iP 0]]⟩ (And.intro (And.intro (EA w hw) (And.intro (oai (f:=tP) hx1 rfl (fun _=>rfl)) (And.intro (And.intro (Z6 A9 hl1).h True.intro) (And.intro (And.intro (Z6 A9 hl1).h True.intro) True.intro)))) (And.intro (And.intro (Z6 A9 hl1).h (And.intro (And.intro (EA w hw) (And.intro (oai (f:=tP) hx1 rfl (fun _=>rfl)) True.intro)) (And.intro (And.intro (EA w hw) (And.intro (oai (f:=tP) hx1 rfl (fun _=>rfl)) True.intro)) True.intro))) (And.intro (And.intro (And.intro (EA w hw) (And.intro (oai (f:=tP) hx1 rfl (fun _=>rfl)) (And.intro (Z6 A9 hl1).h True.intro))) (And.intro (And.intro (Z6 A9 hl1).h (And.intro (EA w hw) (And.intro (oai (f:=tP) hx1 rfl (fun _=>rfl)) True.intro))) True.intro)) True.intro))) ?_
 obtain⟨w1,hw1,e1⟩:=Ad e1
 refine mE 2 [(0,fs (MO _ _ _ _ _ _ _ _ _ _ _ _ _ _ _ _ _ _ _ _ _ _ _ _ _ hw1))] e1 (fun f=>⟨[(2,tP ⟨#[]⟩),(3,iP 0),(5,oF forms1),(7,.ptr 0 0),(8,.ptr 1 0),(19,hC l),(20,iP (l.length:Int)),(21,iP v21)],[[tP x.Name,iP x.Kind,iP x.Rank,iP x.Known,iP x.From.Op,iP x.From.N,tP x.From.S,hX x.From.Kids,iP x.From.At,iP x.To.Op,iP x.To.N,tP x.To.S,hX x.To.Kids,iP x.To.At,iP x.When.Op,iP x.When.N,tP x.When.S,hX x.When.Kids,iP x.When.At,iP x.Houses],[tP x1,oA f,.sl [] .own,iP 0],[.ptr 0 4,.ptr 0 9,.ptr 0 14],[iP 2,iP 2,iP 3]]⟩) ?_ fun y1 e2 hJ1=>?_
 rintro f e1
 refine mE 1 [] e1 (fun f1=>⟨[(2,tP ⟨#[]⟩),(3,iP 0),(5,oF forms1),(7,.ptr 0 0),(8,.ptr 1 0),(19,hC l),(20,iP (l.length:Int)),(21,iP v21)],[[tP x.Name,iP x.Kind,iP x.Rank,iP x.Known,iP x.From.Op,iP x.From.N,tP x.From.S,hX x.From.Kids,iP x.From.At,iP x.To.Op,iP x.To.N,tP x.To.S,hX x.To.Kids,iP x.To.At,iP x.When.Op,iP x.When.N,tP x.When.S,hX x.When.Kids,iP x.When.At,iP x.Houses],[tP x1,oA f1,.sl [] .own,iP 0],[.ptr 0 4,.ptr 0 9,.ptr 0 14],[iP 2,iP 2,iP 3]]⟩) ?_ fun y2 e3 hJ2=>?_
 rintro f1 e1
 refine mE 1 [] e1 (fun f2=>⟨[(2,tP ⟨#[]⟩),(3,iP 0),(5,oF forms1),(8,.ptr 1 0),(19,hC l),(20,iP (l.length:Int)),(21,iP v21)],[[tP x.Name,iP x.Kind,iP x.Rank,iP x.Known,iP x.From.Op,iP x.From.N,tP x.From.S,hX x.From.Kids,iP x.From.At,iP x.To.Op,iP x.To.N,tP x.To.S,hX x.To.Kids,iP x.To.At,iP x.When.Op,iP x.When.N,tP x.When.S,hX x.When.Kids,iP x.When.At,iP x.Houses],[tP x1,oA f2,.sl [] .own,iP 0],[.ptr 0 4,.ptr 0 9,.ptr 0 14],[iP 2,iP 2,iP 3]]⟩) ?_ fun y3 e4 hJ3=>?_
 rintro f2 e1
 obtain⟨l2,hl2,e1⟩:=Ad e1
 obtain⟨l3,hl3,e1⟩:=Ad e1
 exact mJ 2 [(2,fB Co hl2),(0,fa Co hl3)] (ih (_,_) e1)
 refine lF 1 [] (A:=(Int×(List Ao))) (fun n (v67,f3)=>C2 n x v67 f3) (fun (v67,f3)=>⟨[(2,tP ⟨#[]⟩),(3,iP 0),(5,oF forms1),(7,.ptr 0 0),(8,.ptr 1 0),(19,hC l),(20,iP (l.length:Int)),(21,iP v21),(67,iP v67)],[[tP x.Name,iP x.Kind,iP x.Rank,iP x.Known,iP x.From.Op,iP x.From.N,tP x.From.S,hX x.From.Kids,iP x.From.At,iP x.To.Op,iP x.To.N,tP x.To.S,hX x.To.Kids,iP x.To.At,iP x.When.Op,iP x.When.N,tP x.When.S,hX x.When.Kids,iP x.When.At,iP x.Houses],[tP x1,oA f3,.sl [] .own,iP 0],[.ptr 0 4,.ptr 0 9,.ptr 0 14],[iP 2,iP 2,iP 3]]⟩) (0,f1) e4 (fun _=>rfl) ?_
 rintro n ⟨v67,f3⟩ e4 ih1
 replace e4:=(C2.eq_2 ..).symm.trans e4
 refine cD 1 [] e4 (fun hc1 e4=>?_) fun hc1 e4=>?_
 obtain⟨q,hq,e4⟩:=Ad e4
 refine cD 3 [(5,fN .i64 hq)] e4 (fun hc e4=>?_) fun hc e4=>?_
 obtain⟨l4,hl4,e4⟩:=Ad e4
 obtain⟨l5,hl5,e4⟩:=Ad e4
 exact mJ 2 [(4,Z6 A9 hl4),(0,fa A9 hl5)] (ih1 (_,_) e4)
 exact mJ 1 [] (ih1 (_,_) e4)
 exact mJ 1 [] (hJ3 _ (oj e4))
 refine cD 0 [] e3 (fun hc2 e3=>?_) fun hc2 e3=>?_
 obtain⟨l6,hl6,e3⟩:=Ad e3
 obtain⟨l7,hl7,e3⟩:=Ad e3
 exact mJ 1 [(3,Z6 A9 hl6),(0,fa A9 hl7)] (hJ2 _ (oj e3))
 exact mJ 0 [] (hJ2 _ (oj e3))
 refine lF 1 [] (A:=(Int×(List Ao))) (fun n (v45,f4)=>B8 n x v45 f4) (fun (v45,f4)=>⟨[(2,tP ⟨#[]⟩),(3,iP 0),(5,oF forms1),(7,.ptr 0 0),(8,.ptr 1 0),(19,hC l),(20,iP (l.length:Int)),(21,iP v21),(44,.agg [.ptr 0 4,.ptr 0 9,.ptr 0 14]),(45,iP v45)],[[tP x.Name,iP x.Kind,iP x.Rank,iP x.Known,iP x.From.Op,iP x.From.N,tP x.From.S,hX x.From.Kids,iP x.From.At,iP x.To.Op,iP x.To.N,tP x.To.S,hX x.To.Kids,iP x.To.At,iP x.When.Op,iP x.When.N,tP x.When.S,hX x.When.Kids,iP x.When.At,iP x.Houses],[tP x1,.sl (f4.map CS) (if v45=0 then .full else .own),.sl [] .own,iP 0],[.ptr 0 4,.ptr 0 9,.ptr 0 14],[iP 2,iP 2,iP 3]]⟩) (0,l1) e2 (fun _=>rfl) ?_
 rintro n ⟨v45,f4⟩ e2 ih2
 replace e2:=(B8.eq_2 ..).symm.trans e2
 replace e2:=An e2
 rcases e2 with⟨hc6,e2⟩|⟨hc6,e2⟩
 obtain rfl:=Mb hc6
 obtain⟨l12,hl12,e2⟩:=Ad e2
 obtain⟨l13,hl13,e2⟩:=Ad e2
 exact mJ 6 [(9,Z6 A9 hl12),(0,faF A9 hl13 (by intro e0;rw [e0] at hl12;cases hl12))] (ih2 (_,_) e2)
 replace e2:=An e2
 rcases e2 with⟨hc5,e2⟩|⟨hc5,e2⟩
 obtain rfl:=Mb hc5
 obtain⟨l10,hl10,e2⟩:=Ad e2
 obtain⟨l11,hl11,e2⟩:=Ad e2
 exact mJ 6 [(9,Z6 A9 hl10),(0,fa A9 hl11)] (ih2 (_,_) e2)
 replace e2:=An e2
 rcases e2 with⟨hc4,e2⟩|⟨hc4,e2⟩
 obtain rfl:=Mb hc4
 obtain⟨l8,hl8,e2⟩:=Ad e2
 obtain⟨l9,hl9,e2⟩:=Ad e2
 exact mJ 6 [(9,Z6 A9 hl8),(0,fa A9 hl9)] (ih2 (_,_) e2)
 replace e2:=An e2
 rcases e2 with⟨hc3,e2⟩|⟨hc3,e2⟩
 obtain rfl:=Mb hc3
 exact mJ 3 [] (hJ1 _ (oj e2))
 cases e2
 exact mJ 1 [] (hJ _ (oj e1))
theorem Ok (n:Nat)(s:(List Â))(v_:Â)(r:Int)(h:EW n s v_=some r):CZ Tryz.prog 70 [hS s,tP v_] (iP r):=by
 unfold EW at h
 refine vP ⟨[0,1,4,5,7,8,9,16],[]⟩ Tryz.func70 follows fun Q hQ=>?_
 refine mI 2 [(2,fl Bv s)] h (fun _=>⟨[(4,iP 0)],[]⟩) ?_ fun y e h hJ=>?_
 rintro _ h
 cases h
 exact rt 1 [] hQ
 refine lF 1 [] (A:=Int) (fun n v8=>Cn n s v_ v8) (fun v8=>⟨[(0,hS s),(1,tP v_),(4,iP 0),(7,iP (s.length:Int)),(8,iP v8)],[]⟩) 0 e (fun _=>rfl) ?_
 rintro n v8 e ih
 replace e:=(Cn.eq_2 ..).symm.trans e
 refine cD 1 [] e (fun hc1 e=>?_) fun hc1 e=>?_
 obtain⟨x,hx,e⟩:=Ad e
 refine cD 3 [(5,fi Bv hx)] e (fun hc e=>?_) fun hc e=>?_
 cases e
 cases h
 exact rt 1 [] hQ
 exact mJ 1 [] (ih _ e)
 exact mJ 1 [] (hJ _ (oj e))
theorem P2 (n:Nat)(f:Ai)(r:(Int×Bool))(h:DK n f=some r):CZ Tryz.prog 41 [.agg [tP f.Word,hA f.Args,hF f.Body,iP f.At]] (.tup [iP r.1,bP r.2]):=by
 unfold DK at h
 refine vP ⟨[0,1,2,3,4,5,6,7,8,17,48,50,51,52,53,67],[(2,[9999,0,0,1,2,3,4,5]),(11,[9999,0,0,1,2,3,4,5,6,7,8,9,10])]⟩ Tryz.func41 follows fun Q hQ=>?_
 obtain⟨l,hl,h⟩:=Ad h
 refine xZ 2 [(3,fk (EA _ hl))] ?_
 obtain⟨i,hi,h⟩:=Ad h
 obtain⟨l1,hl1,h⟩:=Ad h
 refine mE 3 [(3,fk (Ok _ _ _ _ hi)),(2,fB Bd hl1)] h (fun want=>⟨[(1,.ptr 0 0),(2,iP 0),(3,bP false),(5,iP (À (i+1))),(6,oI want)],[[tP f.Word,hA f.Args,hF f.Body,iP f.At]]⟩) ?_ fun y e hJ=>?_
 rintro want h
 refine mE 0 [] h (fun v48=>⟨[(1,.ptr 0 0),(2,iP 0),(3,bP false),(5,iP (À (i+1))),(6,oI want),(48,bP v48)],[[tP f.Word,hA f.Args,hF f.Body,iP f.At]]⟩) ?_ fun y1 e1 hJ1=>?_
 rintro v48 h
 refine cD 0 [] h (fun hc2 h=>?_) fun hc2 h=>?_
 cases h
 exact rt 1 [] hQ
 refine mI 1 [(2,fl A9 f.Args)] h (fun _=>⟨[(2,iP 0),(3,bP false),(5,iP (À (i+1)))],[[tP f.Word,hA f.Args,hF f.Body,iP f.At]]⟩) ?_ fun y2 e2 h hJ2=>?_
 rintro _ h
 cases h
 exact rt 1 [] hQ
 refine lF 1 [] (A:=Int) (fun n v52=>C1 n f want v52) (fun v52=>⟨[(2,iP 0),(3,bP false),(5,iP (À (i+1))),(6,oI want),(50,hA f.Args),(51,iP (f.Args.length:Int)),(52,iP v52)],[[tP f.Word,hA f.Args,hF f.Body,iP f.At]]⟩) 0 e2 (fun _=>rfl) ?_
 rintro n v52 e2 ih
 replace e2:=(C1.eq_2 ..).symm.trans e2
 refine cD 1 [] e2 (fun hc1 e2=>?_) fun hc1 e2=>?_
 obtain⟨x,hx,e2⟩:=Ad e2
 obtain⟨x1,hx1,e2⟩:=Ad e2
 refine cD 3 [(1,fi A9 hx),(9,fl Bd want),(2,fi Bd hx1)] e2 (fun hc e2=>?_) fun hc e2=>?_
 cases e2
 cases h
 exact rt 1 [] hQ
 exact mJ 1 [] (ih _ e2)
 exact mJ 1 [] (hJ2 _ (oj e2))
 rcases An e1 with⟨hc3,e1⟩|⟨hc3,e1⟩
 exact mJ 1 [(2,fo hc3)] (hJ1 _ (oj e1))
 rcases An e1 with⟨hc4,e1⟩|⟨hc4,e1⟩
 exact mJ 1 [(2,fo hc3),(2,fl Co f.Body),(2,fo hc4)] (hJ1 _ (oj e1))
 rcases An e1 with⟨hc5,e1⟩|⟨hc5,e1⟩
 exact mJ 1 [(2,fo hc3),(2,fl Co f.Body),(2,fo hc4),(2,fl A9 f.Args),(1,fl Bd want),(2,fo hc5)] (hJ1 _ (oj e1))
 rcases An e1 with⟨hc6,e1⟩|⟨hc6,e1⟩
 exact mJ 1 [(2,fo hc3),(2,fl Co f.Body),(2,fo hc4),(2,fl A9 f.Args),(1,fl Bd want),(2,fo hc5),(2,fo hc6),(2,fl A9 f.Args),(1,fl Bd want)] (hJ1 _ (oj e1))
 exact mJ 1 [(2,fo hc3),(2,fl Co f.Body),(2,fo hc4),(2,fl A9 f.Args),(1,fl Bd want),(2,fo hc5),(2,fo hc6)] (hJ1 _ (oj e1))
 refine cD 0 [] e (fun hc7 e=>?_) fun hc7 e=>?_
 obtain⟨l2,hl2,e⟩:=Ad e
 obtain⟨l3,hl3,e⟩:=Ad e
 exact mJ 1 [(1,fB Bd hl2),(0,fa Bd hl3)] (hJ _ (oj e))
 exact mJ 0 [] (hJ _ (oj e))
theorem Kn (q:Int)(q1:Int)(p:Int)(p1:Int)(f:Â)(f1:(List Ao))(f2:(List Ai))(f3:Int)(c:Ag)(r:Bool)(h:CW q q1 p p1 f f1 f2 f3 c=some r):M9 Tryz.prog 43 [.agg [tP c.Name,iP c.Kind,iP c.Rank,iP c.Known,iP c.From.Op,iP c.From.N,tP c.From.S,hX c.From.Kids,iP c.From.At,iP c.To.Op,iP c.To.N,tP c.To.S,hX c.To.Kids,iP c.To.At,iP c.When.Op,iP c.When.N,tP c.When.S,hX c.When.Kids,iP c.When.At,iP c.Houses],.ptr 3 0] [[iP q,iP q1],[iP p,iP p1],[Bp,Dw],[tP f,hA f1,hF f2,iP f3]] (.ret (bP r)) [[iP q,iP q1],[iP p,iP p1],[Bp,Dw],[tP f,hA f1,hF f2,iP f3]]:=by
 unfold CW at h
 refine vS ⟨[0,1,2,3],[(1,[9999,0,0,1,2,3,4,5,6,7,8])]⟩ Tryz.func43 follows fun Q hQ=>?_
 obtain⟨x,hx,h⟩:=Ad h
 cases h
 exact rt 2 [(6,fi A9 hx)] hQ
theorem Ih (n:Nat)(q:Int)(q1:Int)(p:Int)(p1:Int)(f:Â)(f1:(List Ao))(f2:(List Ai))(f3:Int)(s:(List Ag))(r:Int)(h:CL n q q1 p p1 f f1 f2 f3 s=some r):M9 Tryz.prog 71 [hC s,.fn 43 [.ptr 3 0]] [[iP q,iP q1],[iP p,iP p1],[Bp,Dw],[tP f,hA f1,hF f2,iP f3]] (.ret (iP r)) [[iP q,iP q1],[iP p,iP p1],[Bp,Dw],[tP f,hA f1,hF f2,iP f3]]:=by
 unfold CL at h
 refine vS ⟨[0,1,4,5,7,8,9,16],[]⟩ Tryz.func71 follows fun Q hQ=>?_
 refine mI 2 [(2,fl Ak s)] h (fun _=>⟨[(4,iP 0)],[[iP q,iP q1],[iP p,iP p1],[Bp,Dw],[tP f,hA f1,hF f2,iP f3]]⟩) ?_ fun y e h hJ=>?_
 rintro _ h
 cases h
 exact rt 1 [] hQ
 refine lF 1 [] (A:=Int) (fun n v8=>AW n s q q1 p p1 f f1 f2 f3 v8) (fun v8=>⟨[(0,hC s),(1,.fn 43 [.ptr 3 0]),(4,iP 0),(7,iP (s.length:Int)),(8,iP v8)],[[iP q,iP q1],[iP p,iP p1],[Bp,Dw],[tP f,hA f1,hF f2,iP f3]]⟩) 0 e (fun _=>rfl) ?_
 rintro n v8 e ih
 replace e:=(AW.eq_2 ..).symm.trans e
 refine cD 1 [] e (fun hc2 e=>?_) fun hc2 e=>?_
 obtain⟨x,hx,e⟩:=Ad e
 obtain⟨c,hc,e⟩:=Ad e
 refine cD 3 [(5,fi Ak hx),(1,fs (Kn _ _ _ _ _ _ _ _ _ _ hc))] e (fun hc1 e=>?_) fun hc1 e=>?_
 cases e
 cases h
 exact rt 1 [] hQ
 exact mJ 1 [] (ih _ e)
 exact mJ 1 [] (hJ _ (oj e))
theorem Ho (n:Nat)(q:Int)(q1:Int)(p:Int)(p1:Int)(f:Â)(f1:(List Ao))(f2:(List Ai))(f3:Int)(s:(List Ag))(r:Bool)(h:B3 n q q1 p p1 f f1 f2 f3 s=some r):M9 Tryz.prog 42 [hC s,.fn 43 [.ptr 3 0]] [[iP q,iP q1],[iP p,iP p1],[Bp,Dw],[tP f,hA f1,hF f2,iP f3]] (.ret (bP r)) [[iP q,iP q1],[iP p,iP p1],[Bp,Dw],[tP f,hA f1,hF f2,iP f3]]:=by
 unfold B3 at h
 refine vS ⟨[0,1,4],[]⟩ Tryz.func42 follows fun Q hQ=>?_
 obtain⟨c,hc,h⟩:=Ad h
 cases h
 exact rt 2 [(3,fs (Ih _ _ _ _ _ _ _ _ _ _ _ hc))] hQ
theorem MN (q:Int)(q1:Int)(p:Int)(p1:Int)(f:Â)(f1:(List Ao))(f2:(List Ai))(f3:Int)(c:Â)(c1:Int)(c2:Int)(c3:Int)(c4:Int)(c5:Int)(c6:Â)(c7:(List Aa))(c8:Int)(c9:Int)(c10:Int)(c11:Â)(c12:(List Aa))(c13:Int)(c14:Int)(c15:Int)(c16:Â)(c17:(List Aa))(c18:Int)(c19:Int)(r:Unit)(h:Ed q q1 p p1 f f1 f2 f3 c c1 c2 c3 c4 c5 c6 c7 c8 c9 c10 c11 c12 c13 c14 c15 c16 c17 c18 c19=some r):M9 Tryz.prog 38 [.ptr 4 0] [[iP q,iP q1],[iP p,iP p1],[Bp,Dw],[tP f,hA f1,hF f2,iP f3],[tP c,iP c1,iP c2,iP c3,iP c4,iP c5,tP c6,hX c7,iP c8,iP c9,iP c10,tP c11,hX c12,iP c13,iP c14,iP c15,tP c16,hX c17,iP c18,iP c19]] (.ret (.tup [.agg [.ptr 4 4,.ptr 4 9,.ptr 4 14],.agg [iP 2,iP 2,iP 3]])) [[iP q,iP q1],[iP p,iP p1],[Bp,Dw],[tP f,hA f1,hF f2,iP f3],[tP c,iP c1,iP c2,iP c3,iP c4,iP c5,tP c6,hX c7,iP c8,iP c9,iP c10,tP c11,hX c12,iP c13,iP c14,iP c15,tP c16,hX c17,iP c18,iP c19]]:=by
 unfold Ed at h
 refine vS ⟨[0,2,3],[(1,[9999,0,0,1,2,3,4,5,6,7,8,9,10,11,12])]⟩ Tryz.func38 follows fun Q hQ=>?_
 cases h
 exact rt 2 [] hQ
theorem FW (n:Nat)(src:Â)(r:((List Ag)×Am))(h:CR n src=some r):CZ Tryz.prog 18 [tP src] (.tup [hC r.1,.agg [iP r.2.At,iP r.2.E]]):=by
 unfold CR at h
 refine vP ⟨[0,2,3,4,5,6,7,9,10,11,12,13,14,15,16,17,18,19,20,21,23,31,34,35,36,37,45,51,58,101,102,103,104,149,154,169,170,171,185,191],[(3,[9999,0,0,1,2]),(11,[9999,0,0,1,2,3,4]),(13,[9999,0,0,1,2,3,4]),(15,[9999,0,0,1,2,3,4,5,6,7]),(16,[9999,0,0,1,2,3,4,5,6,7,8,9,10,11,12,13,14,15,16,17,18,19,20,21,22,23,24,25,26,27,28,29,30,31,32,33]),(23,[9999,0,0,1,2,3,4]),(25,[9999,1,4,0,1,2,3,4,5,6,7,8,9,10]),(31,[9995]),(33,[9999,0,0,1,2]),(35,[9999,0,0,1,2,3,4,5,6,7,8,9])]⟩ Tryz.func18 follows fun Q hQ=>?_
 obtain⟨f,hf,h⟩:=Ad h
 refine cD 3 [(3,fk (Nz _ _ _ hf))] h (fun hc35 h=>?_) fun hc35 h=>?_
 cases h
 exact rt 1 [] hQ
 obtain⟨u,hu,h⟩:=Ad h
 refine mI 3 [(0,fk OU),(4,fl Co f.1)] h (fun out=>⟨[(2,.sl [] .own),(3,.ptr 0 0),(7,oC out)],[[iP 0,iP 0],[iP f.2.At,iP f.2.E],[Bp,Dw]]⟩) ?_ fun y e h hJ=>?_
 rintro out h
 cases h
 exact rt 1 [] hQ
 refine lF 1 [] (A:=((List Ag)×Int)) (fun n (out1,v36)=>Cm n f out1 v36) (fun (out1,v36)=>⟨[(2,.sl [] .own),(3,.ptr 0 0),(6,.ptr 2 0),(7,oC out1),(34,hF f.1),(35,iP (f.1.length:Int)),(36,iP v36)],[[iP 0,iP 0],[iP f.2.At,iP f.2.E],[Bp,Dw]]⟩) ([],0) e (fun _=>rfl) ?_
 rintro n ⟨out1,v36⟩ e ih
 replace e:=(Cm.eq_2 ..).symm.trans e
 refine cD 1 [] e (fun hc34 e=>?_) fun hc34 e=>?_
 obtain⟨x,hx,e⟩:=Ad e
 obtain⟨s,hs,e⟩:=Ad e
 refine cD 5 [(0,fi Co hx),(4,fk (P2 _ _ _ hs))] e (fun hc33 e=>?_) fun hc33 e=>?_
 cases e
 cases h
 exact rt 1 [] hQ
 refine cD 1 [(1,fl Ak out1)] e (fun hc32 e=>?_) fun hc32 e=>?_
 cases e
 cases h
 exact rt 1 [] hQ
 obtain⟨c,hc,e⟩:=Ad e
 refine cD 1 [(2,fs (Ho _ _ _ _ _ _ _ _ _ _ _ hc))] e (fun hc31 e=>?_) fun hc31 e=>?_
 obtain⟨x1,hx1,e⟩:=Ad e
 cases e
 cases h
 exact rt 1 [(2,fi A9 hx1)] hQ
 obtain⟨x2,hx2,e⟩:=Ad e
 obtain⟨x3,hx3,e⟩:=Ad e
 obtain⟨x4,hx4,e⟩:=Ad e
 obtain⟨x5,hx5,e⟩:=Ad e
 obtain⟨x6,hx6,e⟩:=Ad e
 obtain⟨x7,hx7,e⟩:=Ad e
 refine mI 3 [(2,fi A9 hx2),(5,fi A9 hx3),(4,fi A9 hx4),(4,fi A9 hx5),(4,fi A9 hx6),(4,fi A9 hx7),(8,fl A9 x.Args)] e (fun c1=>⟨[(2,.sl [] .own),(3,.ptr 0 0),(6,.ptr 2 0),(7,oC out1),(9,.ptr 3 0),(12,.ptr 4 0),(34,hF f.1),(35,iP (f.1.length:Int)),(36,iP v36)],[[iP 0,iP 0],[iP f.2.At,iP f.2.E],[Bp,Dw],[tP x.Word,hA x.Args,hF x.Body,iP x.At],[tP x2.S,iP s.1,iP x3.N,iP x4.N,iP x5.E.Op,iP x5.E.N,tP x5.E.S,hX x5.E.Kids,iP x5.E.At,iP x6.E.Op,iP x6.E.N,tP x6.E.S,hX x6.E.Kids,iP x6.E.At,iP x7.E.Op,iP x7.E.N,tP x7.E.S,hX x7.E.Kids,iP x7.E.At,iP c1]]⟩) ?_ fun y1 e1 e hJ1=>?_
 rintro c1 e
 obtain⟨w,hw,e⟩:=Ad e
 refine mI 2 [(0,fs (MN _ _ _ _ _ _ _ _ _ _ _ _ _ _ _ _ _ _ _ _ _ _ _ _ _ _ _ _ _ hw))] e (fun _=>⟨[(2,.sl [] .own),(3,.ptr 0 0),(6,.ptr 2 0),(7,oC out1),(12,.ptr 4 0),(34,hF f.1),(35,iP (f.1.length:Int)),(36,iP v36)],[[iP 0,iP 0],[iP f.2.At,iP f.2.E],[Bp,Dw],[tP x.Word,hA x.Args,hF x.Body,iP x.At],[tP x2.S,iP s.1,iP x3.N,iP x4.N,iP x5.E.Op,iP x5.E.N,tP x5.E.S,hX x5.E.Kids,iP x5.E.At,iP x6.E.Op,iP x6.E.N,tP x6.E.S,hX x6.E.Kids,iP x6.E.At,iP x7.E.Op,iP x7.E.N,tP x7.E.S,hX x7.E.Kids,iP x7.E.At,iP c1],[.ptr 4 4,.ptr 4 9,.ptr 4 14],[iP 2,iP 2,iP 3]]⟩) ?_ fun y2 e2 e hJ2=>?_
 rintro _ e
 obtain⟨l,hl,e⟩:=Ad e
 obtain⟨l1,hl1,e⟩:=Ad e
 exact mJ 2 [(2,fB Ak hl),(0,fa Ak hl1)] (ih (_,_) e)
 refine lF 1 [] (A:=Int) (fun n v170=>Bc n x5 x6 x7 v170) (fun v170=>⟨[(2,.sl [] .own),(3,.ptr 0 0),(6,.ptr 2 0),(7,oC out1),(9,.ptr 3 0),(12,.ptr 4 0),(18,.ptr 6 0),(34,hF f.1),(35,iP (f.1.length:Int)),(36,iP v36),(169,.agg [.ptr 4 4,.ptr 4 9,.ptr 4 14]),(170,iP v170)],[[iP 0,iP 0],[iP f.2.At,iP f.2.E],[Bp,Dw],[tP x.Word,hA x.Args,hF x.Body,iP x.At],[tP x2.S,iP s.1,iP x3.N,iP x4.N,iP x5.E.Op,iP x5.E.N,tP x5.E.S,hX x5.E.Kids,iP x5.E.At,iP x6.E.Op,iP x6.E.N,tP x6.E.S,hX x6.E.Kids,iP x6.E.At,iP x7.E.Op,iP x7.E.N,tP x7.E.S,hX x7.E.Kids,iP x7.E.At,iP c1],[.ptr 4 4,.ptr 4 9,.ptr 4 14],[iP 2,iP 2,iP 3]]⟩) 0 e2 (fun _=>rfl) ?_
 rintro n v170 e2 ih1
 replace e2:=(Bc.eq_2 ..).symm.trans e2
 replace e2:=An e2
 rcases e2 with⟨hc8,e2⟩|⟨hc8,e2⟩
 obtain rfl:=Mb hc8
 obtain⟨f3,hf3,e2⟩:=Ad e2
 refine wl 4 [] ?_
 refine xE 6 [.no,.no,.no,.no,.call (.tup [iP f3.1,.agg [iP f3.2.1.op,tP f3.2.1.name,hI f3.2.1.args,iP f3.2.1.kind,.fno (LO f3.2.1.do_) (K4 f3.2.1.do_) (KM f3.2.1.do_)],.agg [iP f3.2.2.At,iP f3.2.2.E]]),.no,.no,.no,.no,.no,.no,.no,.no,.no] ⟨[(2,.sl [] .own),(3,.ptr 0 0),(6,.ptr 2 0),(7,oC out1),(9,.ptr 3 0),(12,.ptr 4 0),(18,.ptr 6 0),(19,iP 0),(21,iP f3.1),(23,.ptr 8 0),(34,hF f.1),(35,iP (f.1.length:Int)),(36,iP v36),(169,.agg [.ptr 4 4,.ptr 4 9,.ptr 4 14]),(170,iP 0)],[[iP 0,iP 0],[iP f.2.At,iP f.2.E],[Bp,Dw],[tP x.Word,hA x.Args,hF x.Body,iP x.At],[tP x2.S,iP s.1,iP x3.N,iP x4.N,iP x5.E.Op,iP x5.E.N,tP x5.E.S,hX x5.E.Kids,iP x5.E.At,iP x6.E.Op,iP x6.E.N,tP x6.E.S,hX x6.E.Kids,iP x6.E.At,iP x7.E.Op,iP x7.E.N,tP x7.E.S,hX x7.E.Kids,iP x7.E.At,iP c1],[.ptr 4 4,.ptr 4 9,.ptr 4 14],[iP 2,iP 2,iP 3],[iP f3.2.1.op,tP f3.2.1.name,hI f3.2.1.args,iP f3.2.1.kind,.fno (LO f3.2.1.do_) (K4 f3.2.1.do_) (KM f3.2.1.do_)],[iP f3.2.2.At,iP f3.2.2.E]]⟩ (And.intro (And.intro (C9 x5.E f3 hf3) (And.intro True.intro (And.intro (And.intro True.intro True.intro) True.intro))) (And.intro (And.intro (And.intro (C9 x5.E f3 hf3) True.intro) (And.intro (And.intro (C9 x5.E f3 hf3) True.intro) True.intro)) (And.intro (And.intro (And.intro (C9 x5.E f3 hf3) (And.intro True.intro True.intro)) (And.intro (And.intro (C9 x5.E f3 hf3) True.intro) True.intro)) True.intro))) ?_
 refine cD 1 [] e2 (fun hc10 e2=>?_) fun hc10 e2=>?_
 cases e2
 cases e
 cases h
 exact rt 1 [] hQ
 refine cD 1 [] e2 (fun hc9 e2=>?_) fun hc9 e2=>?_
 cases e2
 cases e
 cases h
 exact rt 1 [(4,fi A9 hx5)] hQ
 exact mJ 1 [] (ih1 _ e2)
 replace e2:=An e2
 rcases e2 with⟨hc5,e2⟩|⟨hc5,e2⟩
 obtain rfl:=Mb hc5
 obtain⟨f2,hf2,e2⟩:=Ad e2
 refine wl 4 [] ?_
 refine xE 6 [.no,.no,.no,.no,.call (.tup [iP f2.1,.agg [iP f2.2.1.op,tP f2.2.1.name,hI f2.2.1.args,iP f2.2.1.kind,.fno (LO f2.2.1.do_) (K4 f2.2.1.do_) (KM f2.2.1.do_)],.agg [iP f2.2.2.At,iP f2.2.2.E]]),.no,.no,.no,.no,.no,.no,.no,.no,.no] ⟨[(2,.sl [] .own),(3,.ptr 0 0),(6,.ptr 2 0),(7,oC out1),(9,.ptr 3 0),(12,.ptr 4 0),(18,.ptr 6 0),(19,iP 1),(21,iP f2.1),(23,.ptr 8 0),(34,hF f.1),(35,iP (f.1.length:Int)),(36,iP v36),(169,.agg [.ptr 4 4,.ptr 4 9,.ptr 4 14]),(170,iP 1)],[[iP 0,iP 0],[iP f.2.At,iP f.2.E],[Bp,Dw],[tP x.Word,hA x.Args,hF x.Body,iP x.At],[tP x2.S,iP s.1,iP x3.N,iP x4.N,iP x5.E.Op,iP x5.E.N,tP x5.E.S,hX x5.E.Kids,iP x5.E.At,iP x6.E.Op,iP x6.E.N,tP x6.E.S,hX x6.E.Kids,iP x6.E.At,iP x7.E.Op,iP x7.E.N,tP x7.E.S,hX x7.E.Kids,iP x7.E.At,iP c1],[.ptr 4 4,.ptr 4 9,.ptr 4 14],[iP 2,iP 2,iP 3],[iP f2.2.1.op,tP f2.2.1.name,hI f2.2.1.args,iP f2.2.1.kind,.fno (LO f2.2.1.do_) (K4 f2.2.1.do_) (KM f2.2.1.do_)],[iP f2.2.2.At,iP f2.2.2.E]]⟩ (And.intro (And.intro (C9 x6.E f2 hf2) (And.intro True.intro (And.intro (And.intro True.intro True.intro) True.intro))) (And.intro (And.intro (And.intro (C9 x6.E f2 hf2) True.intro) (And.intro (And.intro (C9 x6.E f2 hf2) True.intro) True.intro)) (And.intro (And.intro (And.intro (C9 x6.E f2 hf2) (And.intro True.intro True.intro)) (And.intro (And.intro (C9 x6.E f2 hf2) True.intro) True.intro)) True.intro))) ?_
 refine cD 1 [] e2 (fun hc7 e2=>?_) fun hc7 e2=>?_
 cases e2
 cases e
 cases h
 exact rt 1 [] hQ
 refine cD 1 [] e2 (fun hc6 e2=>?_) fun hc6 e2=>?_
 cases e2
 cases e
 cases h
 exact rt 1 [(4,fi A9 hx6)] hQ
 exact mJ 1 [] (ih1 _ e2)
 replace e2:=An e2
 rcases e2 with⟨hc2,e2⟩|⟨hc2,e2⟩
 obtain rfl:=Mb hc2
 obtain⟨f1,hf1,e2⟩:=Ad e2
 refine wl 4 [] ?_
 refine xE 6 [.no,.no,.no,.no,.call (.tup [iP f1.1,.agg [iP f1.2.1.op,tP f1.2.1.name,hI f1.2.1.args,iP f1.2.1.kind,.fno (LO f1.2.1.do_) (K4 f1.2.1.do_) (KM f1.2.1.do_)],.agg [iP f1.2.2.At,iP f1.2.2.E]]),.no,.no,.no,.no,.no,.no,.no,.no,.no] ⟨[(2,.sl [] .own),(3,.ptr 0 0),(6,.ptr 2 0),(7,oC out1),(9,.ptr 3 0),(12,.ptr 4 0),(18,.ptr 6 0),(19,iP 2),(21,iP f1.1),(23,.ptr 8 0),(34,hF f.1),(35,iP (f.1.length:Int)),(36,iP v36),(169,.agg [.ptr 4 4,.ptr 4 9,.ptr 4 14]),(170,iP 2)],[[iP 0,iP 0],[iP f.2.At,iP f.2.E],[Bp,Dw],[tP x.Word,hA x.Args,hF x.Body,iP x.At],[tP x2.S,iP s.1,iP x3.N,iP x4.N,iP x5.E.Op,iP x5.E.N,tP x5.E.S,hX x5.E.Kids,iP x5.E.At,iP x6.E.Op,iP x6.E.N,tP x6.E.S,hX x6.E.Kids,iP x6.E.At,iP x7.E.Op,iP x7.E.N,tP x7.E.S,hX x7.E.Kids,iP x7.E.At,iP c1],[.ptr 4 4,.ptr 4 9,.ptr 4 14],[iP 2,iP 2,iP 3],[iP f1.2.1.op,tP f1.2.1.name,hI f1.2.1.args,iP f1.2.1.kind,.fno (LO f1.2.1.do_) (K4 f1.2.1.do_) (KM f1.2.1.do_)],[iP f1.2.2.At,iP f1.2.2.E]]⟩ (And.intro (And.intro (C9 x7.E f1 hf1) (And.intro True.intro (And.intro (And.intro True.intro True.intro) True.intro))) (And.intro (And.intro (And.intro (C9 x7.E f1 hf1) True.intro) (And.intro (And.intro (C9 x7.E f1 hf1) True.intro) True.intro)) (And.intro (And.intro (And.intro (C9 x7.E f1 hf1) (And.intro True.intro True.intro)) (And.intro (And.intro (C9 x7.E f1 hf1) True.intro) True.intro)) True.intro))) ?_
 refine cD 1 [] e2 (fun hc4 e2=>?_) fun hc4 e2=>?_
 cases e2
 cases e
 cases h
 exact rt 1 [] hQ
 refine cD 1 [] e2 (fun hc3 e2=>?_) fun hc3 e2=>?_
 cases e2
 cases e
 cases h
 exact rt 1 [(4,fi A9 hx7)] hQ
 exact mJ 1 [] (ih1 _ e2)
 replace e2:=An e2
 rcases e2 with⟨hc1,e2⟩|⟨hc1,e2⟩
 obtain rfl:=Mb hc1
 exact mJ 3 [] (hJ2 _ (oj e2))
 cases e2
 refine lF 1 [] (A:=(Int×Int×Int)) (fun n (v103,last,c2)=>By n x v103 last c2) (fun (v103,last,c2)=>⟨[(2,.sl [] .own),(3,.ptr 0 0),(6,.ptr 2 0),(7,oC out1),(9,.ptr 3 0),(12,.ptr 4 0),(13,iP last),(34,hF f.1),(35,iP (f.1.length:Int)),(36,iP v36),(101,hA x.Args),(102,iP (x.Args.length:Int)),(103,iP v103)],[[iP 0,iP 0],[iP f.2.At,iP f.2.E],[Bp,Dw],[tP x.Word,hA x.Args,hF x.Body,iP x.At],[tP x2.S,iP s.1,iP x3.N,iP x4.N,iP x5.E.Op,iP x5.E.N,tP x5.E.S,hX x5.E.Kids,iP x5.E.At,iP x6.E.Op,iP x6.E.N,tP x6.E.S,hX x6.E.Kids,iP x6.E.At,iP x7.E.Op,iP x7.E.N,tP x7.E.S,hX x7.E.Kids,iP x7.E.At,iP c2]]⟩) (0,-1,0) e1 (fun _=>rfl) ?_
 rintro n ⟨v103,last,c2⟩ e1 ih2
 replace e1:=(By.eq_2 ..).symm.trans e1
 refine cD 1 [] e1 (fun hc30 e1=>?_) fun hc30 e1=>?_
 obtain⟨x8,hx8,e1⟩:=Ad e1
 refine mE 2 [(1,fi A9 hx8)] e1 (fun odd=>⟨[(2,.sl [] .own),(3,.ptr 0 0),(6,.ptr 2 0),(7,oC out1),(9,.ptr 3 0),(12,.ptr 4 0),(13,iP last),(14,iP v103),(15,.ptr 5 0),(16,bP odd),(34,hF f.1),(35,iP (f.1.length:Int)),(36,iP v36),(101,hA x.Args),(102,iP (x.Args.length:Int)),(103,iP v103)],[[iP 0,iP 0],[iP f.2.At,iP f.2.E],[Bp,Dw],[tP x.Word,hA x.Args,hF x.Body,iP x.At],[tP x2.S,iP s.1,iP x3.N,iP x4.N,iP x5.E.Op,iP x5.E.N,tP x5.E.S,hX x5.E.Kids,iP x5.E.At,iP x6.E.Op,iP x6.E.N,tP x6.E.S,hX x6.E.Kids,iP x6.E.At,iP x7.E.Op,iP x7.E.N,tP x7.E.S,hX x7.E.Kids,iP x7.E.At,iP c2],[iP x8.Kind,iP x8.N,tP x8.S,iP x8.E.Op,iP x8.E.N,tP x8.E.S,hX x8.E.Kids,iP x8.E.At,iP x8.At]]⟩) ?_ fun y3 e3 hJ3=>?_
 rintro odd e1
 refine cD 1 [] e1 (fun hc12 e1=>?_) fun hc12 e1=>?_
 cases e1
 cases e
 cases h
 exact rt 1 [] hQ
 refine cD 1 [] e1 (fun hc11 e1=>?_) fun hc11 e1=>?_
 obtain⟨q,hq,e1⟩:=Ad e1
 exact mJ 2 [(4,fN .i64 hq)] (ih2 (_,_,_) e1)
 exact mJ 1 [] (ih2 (_,_,_) e1)
 rcases An e3 with⟨hc13,e3⟩|⟨hc13,e3⟩
 rcases An e3 with⟨hc14,e3⟩|⟨hc14,e3⟩
 exact mJ 1 [(2,fo hc13),(3,fo hc14)] (hJ3 _ (oj e3))
 rcases An e3 with⟨hc15,e3⟩|⟨hc15,e3⟩
 exact mJ 1 [(2,fo hc13),(3,fo hc14),(5,fo hc15)] (hJ3 _ (oj e3))
 rcases An e3 with⟨hc16,e3⟩|⟨hc16,e3⟩
 rcases An e3 with⟨hc17,e3⟩|⟨hc17,e3⟩
 exact mJ 1 [(2,fo hc13),(3,fo hc14),(5,fo hc15),(2,fo hc16),(3,fo hc17)] (hJ3 _ (oj e3))
 rcases An e3 with⟨hc18,e3⟩|⟨hc18,e3⟩
 exact mJ 1 [(2,fo hc13),(3,fo hc14),(5,fo hc15),(2,fo hc16),(3,fo hc17),(6,fo hc18)] (hJ3 _ (oj e3))
 rcases An e3 with⟨hc19,e3⟩|⟨hc19,e3⟩
 rcases An e3 with⟨hc20,e3⟩|⟨hc20,e3⟩
 exact mJ 1 [(2,fo hc13),(3,fo hc14),(5,fo hc15),(2,fo hc16),(3,fo hc17),(6,fo hc18),(2,fo hc19),(4,fo hc20)] (hJ3 _ (oj e3))
 exact mJ 1 [(2,fo hc13),(3,fo hc14),(5,fo hc15),(2,fo hc16),(3,fo hc17),(6,fo hc18),(2,fo hc19),(4,fo hc20)] (hJ3 _ (oj e3))
 exact mJ 1 [(2,fo hc13),(3,fo hc14),(5,fo hc15),(2,fo hc16),(3,fo hc17),(6,fo hc18),(2,fo hc19)] (hJ3 _ (oj e3))
 rcases An e3 with⟨hc21,e3⟩|⟨hc21,e3⟩
 rcases An e3 with⟨hc22,e3⟩|⟨hc22,e3⟩
 exact mJ 1 [(2,fo hc13),(3,fo hc14),(5,fo hc15),(2,fo hc16),(13,fo hc21),(4,fo hc22)] (hJ3 _ (oj e3))
 exact mJ 1 [(2,fo hc13),(3,fo hc14),(5,fo hc15),(2,fo hc16),(13,fo hc21),(4,fo hc22)] (hJ3 _ (oj e3))
 exact mJ 1 [(2,fo hc13),(3,fo hc14),(5,fo hc15),(2,fo hc16),(13,fo hc21)] (hJ3 _ (oj e3))
 rcases An e3 with⟨hc23,e3⟩|⟨hc23,e3⟩
 rcases An e3 with⟨hc24,e3⟩|⟨hc24,e3⟩
 exact mJ 1 [(2,fo hc13),(12,fo hc23),(3,fo hc24)] (hJ3 _ (oj e3))
 rcases An e3 with⟨hc25,e3⟩|⟨hc25,e3⟩
 exact mJ 1 [(2,fo hc13),(12,fo hc23),(3,fo hc24),(6,fo hc25)] (hJ3 _ (oj e3))
 rcases An e3 with⟨hc26,e3⟩|⟨hc26,e3⟩
 rcases An e3 with⟨hc27,e3⟩|⟨hc27,e3⟩
 exact mJ 1 [(2,fo hc13),(12,fo hc23),(3,fo hc24),(6,fo hc25),(2,fo hc26),(4,fo hc27)] (hJ3 _ (oj e3))
 exact mJ 1 [(2,fo hc13),(12,fo hc23),(3,fo hc24),(6,fo hc25),(2,fo hc26),(4,fo hc27)] (hJ3 _ (oj e3))
 exact mJ 1 [(2,fo hc13),(12,fo hc23),(3,fo hc24),(6,fo hc25),(2,fo hc26)] (hJ3 _ (oj e3))
 rcases An e3 with⟨hc28,e3⟩|⟨hc28,e3⟩
 rcases An e3 with⟨hc29,e3⟩|⟨hc29,e3⟩
 exact mJ 1 [(2,fo hc13),(12,fo hc23),(13,fo hc28),(4,fo hc29)] (hJ3 _ (oj e3))
 exact mJ 1 [(2,fo hc13),(12,fo hc23),(13,fo hc28),(4,fo hc29)] (hJ3 _ (oj e3))
 exact mJ 1 [(2,fo hc13),(12,fo hc23),(13,fo hc28)] (hJ3 _ (oj e3))
 exact mJ 1 [] (hJ1 _ (oj e1))
 exact mJ 1 [] (hJ _ (oj e))
end Go.Proofs.YtkcfmlfkfagejaaGreatDoor
