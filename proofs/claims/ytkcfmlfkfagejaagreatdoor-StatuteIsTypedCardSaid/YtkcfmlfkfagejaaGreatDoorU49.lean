/-
  The walks of chapter 33: typed: the program computes the plain functions. (Printed by lift.py.)
-/
import Derived.Test.YtkcfmlfkfagejaaGreatDoorU48
namespace Go.Proofs.YtkcfmlfkfagejaaGreatDoor
open Go.RowKit Go.Q Go.Vl Go.Sp
set_option maxRecDepth 100000
set_option linter.unusedSimpArgs false
set_option maxHeartbeats 4000000
set_option linter.unusedVariables false
theorem IL (n:Nat)(e:Aa)(d:AB)(known:Int)(r:Bool)(h:Dd n e d known=some r):Cz Tryz.prog 8 [.agg [iP e.Op,iP e.N,tP e.S,hX e.Kids,iP e.At],.agg [hZ d.Facts,iP d.Stored,iP d.Owner],iP known] (bP r):=by
 unfold Dd at h
 refine vP ⟨[0,1,2,3,4,6,7,8,9,10,11,12,13,14,15,16,17,18,19,20,21,22,23,24,25,26,27,28,44,59,75,76,77,125,171,236],[(13,[9999,0,0,3,4,1,2,5,6,7,8,9,10]),(16,[9999,0,0,3,4,1,2,5,6,7,8,9,10]),(17,[9999,0,0,1,3,4,2,5,6,7,8,9,10]),(22,[9999,0,0,1,3,4,2,5,6,7,8,9,10]),(23,[9999,0,0,1,3,4,2,5,6,7,8,9,10]),(26,[9999,0,0,1,3,4,2,5,6,7,8,9,10])]⟩ Tryz.func8 follows fun Q hQ=>?_
 obtain⟨few,hfew,h⟩:=Ae h
 refine mE 2 [(4,fk (Me _ _ _ _ hfew))] h (fun v44=>⟨[(2,iP known),(3,.ptr 0 0),(4,.ptr 1 0),(6,bP false),(44,bP v44)],[[iP e.Op,iP e.N,tP e.S,hX e.Kids,iP e.At],[hZ d.Facts,iP d.Stored,iP d.Owner]]⟩) ?_ fun y e1 hJ=>?_
 rintro v44 h
 refine cD 0 [] h (fun hc38 h=>?_) fun hc38 h=>?_
 obtain⟨s,hs,h⟩:=Ae h
 cases h
 exact rt 1 [(0,fk (BU _ hs))] hQ
 obtain⟨t,ht,h⟩:=Ae h
 obtain⟨v_,hv_,h⟩:=Ae h
 refine cD 3 [(1,fk (N7 _ _ ht)),(8,fk (Bk _ _ _ _ _ hv_))] h (fun hc37 h=>?_) fun hc37 h=>?_
 refine mE 0 [] h (fun v6=>⟨[(2,iP known),(3,.ptr 0 0),(4,.ptr 1 0),(6,bP v6),(8,iP t.1),(10,iP v_.1),(11,iP v_.2)],[[iP e.Op,iP e.N,tP e.S,hX e.Kids,iP e.At],[hZ d.Facts,iP d.Stored,iP d.Owner]]⟩) ?_ fun y1 e2 hJ1=>?_
 rintro v6 h
 cases h
 exact rt 0 [] hQ
 obtain⟨s1,hs1,e2⟩:=Ae e2
 rcases Ao e2 with⟨hc,e2⟩|⟨hc,e2⟩
 rcases Ao e2 with⟨hc1,e2⟩|⟨hc1,e2⟩
 rcases Ao e2 with⟨hc2,e2⟩|⟨hc2,e2⟩
 exact mJ 1 [(0,fk (BU _ hs1)),(0,fo hc),(4,fo hc1),(3,fo hc2)] (hJ1 _ (oj e2))
 exact mJ 1 [(0,fk (BU _ hs1)),(0,fo hc),(4,fo hc1),(3,fo hc2)] (hJ1 _ (oj e2))
 exact mJ 1 [(0,fk (BU _ hs1)),(0,fo hc),(4,fo hc1)] (hJ1 _ (oj e2))
 exact mJ 1 [(0,fk (BU _ hs1)),(0,fo hc)] (hJ1 _ (oj e2))
 refine cD 1 [] h (fun hc36 h=>?_) fun hc36 h=>?_
 cases h
 exact rt 1 [] hQ
 refine cD 3 [] h (fun hc35 h=>?_) fun hc35 h=>?_
 obtain⟨l,hl,h⟩:=Ae h
 obtain⟨v_1,hv_1,h⟩:=Ae h
 obtain⟨n_,hn_,h⟩:=Ae h
 obtain⟨t1,ht1,h⟩:=Ae h
 obtain⟨v_2,hv_2,h⟩:=Ae h
 refine mE 2 [(1,fB A1 hl),(3,fk (Bk _ _ _ _ _ hv_1)),(8,fk (DJ _ _ hn_)),(0,fk (Dg _ _ _ _ ht1)),(0,fk (Bk _ _ _ _ _ hv_2))] h (fun v61=>⟨[(6,bP v61)],[[iP e.Op,iP e.N,tP e.S,hX e.Kids,iP e.At],[hZ d.Facts,iP d.Stored,iP d.Owner]]⟩) ?_ fun y2 e3 hJ2=>?_
 rintro v61 h
 cases h
 exact rt 0 [] hQ
 obtain⟨s2,hs2,e3⟩:=Ae e3
 rcases Ao e3 with⟨hc3,e3⟩|⟨hc3,e3⟩
 rcases Ao e3 with⟨hc4,e3⟩|⟨hc4,e3⟩
 rcases Ao e3 with⟨hc5,e3⟩|⟨hc5,e3⟩
 rcases Ao e3 with⟨hc6,e3⟩|⟨hc6,e3⟩
 rcases Ao e3 with⟨hc7,e3⟩|⟨hc7,e3⟩
 rcases Ao e3 with⟨hc8,e3⟩|⟨hc8,e3⟩
 exact mJ 1 [(0,fk (BU _ hs2)),(0,fo hc3),(3,fo hc4),(3,fo hc5),(3,fo hc6),(3,fo hc7),(5,fo hc8)] (hJ2 _ (oj e3))
 exact mJ 1 [(0,fk (BU _ hs2)),(0,fo hc3),(3,fo hc4),(3,fo hc5),(3,fo hc6),(3,fo hc7),(5,fo hc8)] (hJ2 _ (oj e3))
 exact mJ 1 [(0,fk (BU _ hs2)),(0,fo hc3),(3,fo hc4),(3,fo hc5),(3,fo hc6),(3,fo hc7)] (hJ2 _ (oj e3))
 exact mJ 1 [(0,fk (BU _ hs2)),(0,fo hc3),(3,fo hc4),(3,fo hc5),(3,fo hc6)] (hJ2 _ (oj e3))
 exact mJ 1 [(0,fk (BU _ hs2)),(0,fo hc3),(3,fo hc4),(3,fo hc5)] (hJ2 _ (oj e3))
 exact mJ 1 [(0,fk (BU _ hs2)),(0,fo hc3),(3,fo hc4)] (hJ2 _ (oj e3))
 exact mJ 1 [(0,fk (BU _ hs2)),(0,fo hc3)] (hJ2 _ (oj e3))
 refine cD 1 [] h (fun hc34 h=>?_) fun hc34 h=>?_
 obtain⟨n_1,hn_1,h⟩:=Ae h
 obtain⟨t2,ht2,h⟩:=Ae h
 obtain⟨v_3,hv_3,h⟩:=Ae h
 obtain⟨t3,ht3,h⟩:=Ae h
 obtain⟨v_4,hv_4,h⟩:=Ae h
 refine mE 2 [(3,fk (DJ _ _ hn_1)),(0,fk (Dg _ _ _ _ ht2)),(0,fk (Bk _ _ _ _ _ hv_3)),(9,fk (Dg _ _ _ _ ht3)),(0,fk (Bk _ _ _ _ _ hv_4))] h (fun v62=>⟨[(6,bP v62)],[[iP e.Op,iP e.N,tP e.S,hX e.Kids,iP e.At],[hZ d.Facts,iP d.Stored,iP d.Owner]]⟩) ?_ fun y3 e4 hJ3=>?_
 rintro v62 h
 cases h
 exact rt 0 [] hQ
 obtain⟨s3,hs3,e4⟩:=Ae e4
 rcases Ao e4 with⟨hc9,e4⟩|⟨hc9,e4⟩
 rcases Ao e4 with⟨hc10,e4⟩|⟨hc10,e4⟩
 rcases Ao e4 with⟨hc11,e4⟩|⟨hc11,e4⟩
 rcases Ao e4 with⟨hc12,e4⟩|⟨hc12,e4⟩
 rcases Ao e4 with⟨hc13,e4⟩|⟨hc13,e4⟩
 rcases Ao e4 with⟨hc14,e4⟩|⟨hc14,e4⟩
 exact mJ 1 [(0,fk (BU _ hs3)),(0,fo hc9),(3,fo hc10),(3,fo hc11),(3,fo hc12),(3,fo hc13),(4,fo hc14)] (hJ3 _ (oj e4))
 exact mJ 1 [(0,fk (BU _ hs3)),(0,fo hc9),(3,fo hc10),(3,fo hc11),(3,fo hc12),(3,fo hc13),(4,fo hc14)] (hJ3 _ (oj e4))
 exact mJ 1 [(0,fk (BU _ hs3)),(0,fo hc9),(3,fo hc10),(3,fo hc11),(3,fo hc12),(3,fo hc13)] (hJ3 _ (oj e4))
 exact mJ 1 [(0,fk (BU _ hs3)),(0,fo hc9),(3,fo hc10),(3,fo hc11),(3,fo hc12)] (hJ3 _ (oj e4))
 exact mJ 1 [(0,fk (BU _ hs3)),(0,fo hc9),(3,fo hc10),(3,fo hc11)] (hJ3 _ (oj e4))
 exact mJ 1 [(0,fk (BU _ hs3)),(0,fo hc9),(3,fo hc10)] (hJ3 _ (oj e4))
 exact mJ 1 [(0,fk (BU _ hs3)),(0,fo hc9)] (hJ3 _ (oj e4))
 refine cD 1 [] h (fun hc33 h=>?_) fun hc33 h=>?_
 obtain⟨l1,hl1,h⟩:=Ae h
 obtain⟨v_5,hv_5,h⟩:=Ae h
 obtain⟨t4,ht4,h⟩:=Ae h
 obtain⟨v_6,hv_6,h⟩:=Ae h
 obtain⟨t5,ht5,h⟩:=Ae h
 obtain⟨v_7,hv_7,h⟩:=Ae h
 refine mE 4 [(1,fB A1 hl1),(6,fk (Bk _ _ _ _ _ hv_5)),(9,fk (Dg _ _ _ _ ht4)),(0,fk (Bk _ _ _ _ _ hv_6)),(9,fk (Dg _ _ _ _ ht5)),(0,fk (Bk _ _ _ _ _ hv_7))] h (fun v63=>⟨[(6,bP v63)],[[iP e.Op,iP e.N,tP e.S,hX e.Kids,iP e.At],[hZ d.Facts,iP d.Stored,iP d.Owner],[iP 5,iP 0,tP ⟨#[]⟩,hX l1,iP 0]]⟩) ?_ fun y4 e5 hJ4=>?_
 rintro v63 h
 cases h
 exact rt 0 [] hQ
 obtain⟨s4,hs4,e5⟩:=Ae e5
 rcases Ao e5 with⟨hc15,e5⟩|⟨hc15,e5⟩
 rcases Ao e5 with⟨hc16,e5⟩|⟨hc16,e5⟩
 rcases Ao e5 with⟨hc17,e5⟩|⟨hc17,e5⟩
 rcases Ao e5 with⟨hc18,e5⟩|⟨hc18,e5⟩
 rcases Ao e5 with⟨hc19,e5⟩|⟨hc19,e5⟩
 rcases Ao e5 with⟨hc20,e5⟩|⟨hc20,e5⟩
 rcases Ao e5 with⟨hc21,e5⟩|⟨hc21,e5⟩
 exact mJ 1 [(0,fk (BU _ hs4)),(0,fo hc15),(2,fo hc16),(8,fo hc17),(3,fo hc18),(3,fo hc19),(5,fo hc20),(3,fo hc21)] (hJ4 _ (oj e5))
 exact mJ 1 [(0,fk (BU _ hs4)),(0,fo hc15),(2,fo hc16),(8,fo hc17),(3,fo hc18),(3,fo hc19),(5,fo hc20),(3,fo hc21)] (hJ4 _ (oj e5))
 exact mJ 1 [(0,fk (BU _ hs4)),(0,fo hc15),(2,fo hc16),(8,fo hc17),(3,fo hc18),(3,fo hc19),(5,fo hc20)] (hJ4 _ (oj e5))
 exact mJ 1 [(0,fk (BU _ hs4)),(0,fo hc15),(2,fo hc16),(8,fo hc17),(3,fo hc18),(3,fo hc19)] (hJ4 _ (oj e5))
 exact mJ 1 [(0,fk (BU _ hs4)),(0,fo hc15),(2,fo hc16),(8,fo hc17),(3,fo hc18)] (hJ4 _ (oj e5))
 exact mJ 1 [(0,fk (BU _ hs4)),(0,fo hc15),(2,fo hc16),(8,fo hc17)] (hJ4 _ (oj e5))
 rcases Ao e5 with⟨hc22,e5⟩|⟨hc22,e5⟩
 rcases Ao e5 with⟨hc23,e5⟩|⟨hc23,e5⟩
 rcases Ao e5 with⟨hc24,e5⟩|⟨hc24,e5⟩
 rcases Ao e5 with⟨hc25,e5⟩|⟨hc25,e5⟩
 rcases Ao e5 with⟨hc26,e5⟩|⟨hc26,e5⟩
 rcases Ao e5 with⟨hc27,e5⟩|⟨hc27,e5⟩
 exact mJ 1 [(0,fk (BU _ hs4)),(0,fo hc15),(2,fo hc16),(4,fo hc22),(3,fo hc23),(3,fo hc24),(3,fo hc25),(5,fo hc26),(3,fo hc27)] (hJ4 _ (oj e5))
 exact mJ 1 [(0,fk (BU _ hs4)),(0,fo hc15),(2,fo hc16),(4,fo hc22),(3,fo hc23),(3,fo hc24),(3,fo hc25),(5,fo hc26),(3,fo hc27)] (hJ4 _ (oj e5))
 exact mJ 1 [(0,fk (BU _ hs4)),(0,fo hc15),(2,fo hc16),(4,fo hc22),(3,fo hc23),(3,fo hc24),(3,fo hc25),(5,fo hc26)] (hJ4 _ (oj e5))
 exact mJ 1 [(0,fk (BU _ hs4)),(0,fo hc15),(2,fo hc16),(4,fo hc22),(3,fo hc23),(3,fo hc24),(3,fo hc25)] (hJ4 _ (oj e5))
 exact mJ 1 [(0,fk (BU _ hs4)),(0,fo hc15),(2,fo hc16),(4,fo hc22),(3,fo hc23),(3,fo hc24)] (hJ4 _ (oj e5))
 exact mJ 1 [(0,fk (BU _ hs4)),(0,fo hc15),(2,fo hc16),(4,fo hc22),(3,fo hc23)] (hJ4 _ (oj e5))
 exact mJ 1 [(0,fk (BU _ hs4)),(0,fo hc15),(2,fo hc16),(4,fo hc22)] (hJ4 _ (oj e5))
 exact mJ 1 [(0,fk (BU _ hs4)),(0,fo hc15)] (hJ4 _ (oj e5))
 refine cD 1 [] h (fun hc32 h=>?_) fun hc32 h=>?_
 obtain⟨t6,ht6,h⟩:=Ae h
 obtain⟨v_8,hv_8,h⟩:=Ae h
 refine mE 1 [(4,fk (Dg _ _ _ _ ht6)),(0,fk (Bk _ _ _ _ _ hv_8))] h (fun v64=>⟨[(6,bP v64)],[[iP e.Op,iP e.N,tP e.S,hX e.Kids,iP e.At],[hZ d.Facts,iP d.Stored,iP d.Owner]]⟩) ?_ fun y5 e6 hJ5=>?_
 rintro v64 h
 cases h
 exact rt 0 [] hQ
 obtain⟨s5,hs5,e6⟩:=Ae e6
 rcases Ao e6 with⟨hc28,e6⟩|⟨hc28,e6⟩
 rcases Ao e6 with⟨hc29,e6⟩|⟨hc29,e6⟩
 rcases Ao e6 with⟨hc30,e6⟩|⟨hc30,e6⟩
 rcases Ao e6 with⟨hc31,e6⟩|⟨hc31,e6⟩
 exact mJ 1 [(0,fk (BU _ hs5)),(0,fo hc28),(3,fo hc29),(3,fo hc30),(3,fo hc31)] (hJ5 _ (oj e6))
 exact mJ 1 [(0,fk (BU _ hs5)),(0,fo hc28),(3,fo hc29),(3,fo hc30),(3,fo hc31)] (hJ5 _ (oj e6))
 exact mJ 1 [(0,fk (BU _ hs5)),(0,fo hc28),(3,fo hc29),(3,fo hc30)] (hJ5 _ (oj e6))
 exact mJ 1 [(0,fk (BU _ hs5)),(0,fo hc28),(3,fo hc29)] (hJ5 _ (oj e6))
 exact mJ 1 [(0,fk (BU _ hs5)),(0,fo hc28)] (hJ5 _ (oj e6))
 cases h
 exact rt 1 [] hQ
 rcases Ao e1 with⟨hc39,e1⟩|⟨hc39,e1⟩
 exact mJ 1 [(2,fo hc39)] (hJ _ (oj e1))
 rcases Ao e1 with⟨hc40,e1⟩|⟨hc40,e1⟩
 exact mJ 1 [(2,fo hc39),(2,fl CB d.Facts),(2,fo hc40)] (hJ _ (oj e1))
 obtain⟨k,hk,e1⟩:=Ae e1
 exact mJ 1 [(2,fo hc39),(2,fl CB d.Facts),(2,fo hc40),(2,fk (G8 _ _ _ _ hk))] (hJ _ (oj e1))
end Go.Proofs.YtkcfmlfkfagejaaGreatDoor
