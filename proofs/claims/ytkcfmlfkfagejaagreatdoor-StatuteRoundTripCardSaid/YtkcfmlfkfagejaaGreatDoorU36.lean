/-
  The walks of chapter 33: sanity: the program computes the plain functions. (Printed by lift.py.) The walks of chapter 33: the round trip: the program computes the plain functions. (Printed by lift.py.)
-/
import Derived.Test.YtkcfmlfkfagejaaGreatDoorU33
import Derived.Test.YtkcfmlfkfagejaaGreatDoorU35
set_option linter.unusedVariables false
set_option linter.unusedSimpArgs false
namespace Go.Proofs.YtkcfmlfkfagejaaGreatDoor
open Go.RowKit Go.Q Go.Vl Go.Sp
set_option maxRecDepth 100000
set_option linter.unusedSimpArgs false
set_option maxHeartbeats 4000000
set_option linter.unusedVariables false
theorem RI (r:Â)(h:Kz=some r):CZ Tryz.prog 30 [] (tP r):=by
 unfold Kz at h
 refine vP ⟨[0],[]⟩ Tryz.func30 follows fun Q hQ=>?_
 cases h
 exact rt 2 [] hQ
theorem Ls (s:Â)(r:Aa)(h:IL s=some r):CZ Tryz.prog 31 [tP s] (.agg [iP r.Op,iP r.N,tP r.S,hX r.Kids,iP r.At]):=by
 unfold IL at h
 refine vP ⟨[0,2],[]⟩ Tryz.func31 follows fun Q hQ=>?_
 cases h
 exact rt 2 [] hQ
theorem H5 (n_:Int)(r:Aa)(h:GZ n_=some r):CZ Tryz.prog 27 [iP n_] (.agg [iP r.Op,iP r.N,tP r.S,hX r.Kids,iP r.At]):=by
 unfold GZ at h
 refine vP ⟨[0,2],[]⟩ Tryz.func27 follows fun Q hQ=>?_
 cases h
 exact rt 2 [] hQ
theorem Ko (op:Int)(a_:Aa)(b:Aa)(r:Aa)(h:JK op a_ b=some r):CZ Tryz.prog 26 [iP op,.agg [iP a_.Op,iP a_.N,tP a_.S,hX a_.Kids,iP a_.At],.agg [iP b.Op,iP b.N,tP b.S,hX b.Kids,iP b.At]] (.agg [iP r.Op,iP r.N,tP r.S,hX r.Kids,iP r.At]):=by
 unfold JK at h
 refine vP ⟨[0,1,2,4,5,6],[]⟩ Tryz.func26 follows fun Q hQ=>?_
 obtain⟨l,hl,h⟩:=Ad h
 cases h
 exact rt 2 [(6,fB A7 hl)] hQ
theorem Kq (n:Nat)(src:Â)(at_:Int)(e:Int)(r:Bool)(h:Jn n src at_ e=some r):CZ Tryz.prog 32 [tP src,iP at_,iP e] (bP r):=by
 unfold Jn at h
 refine vP ⟨[0,1,2,6,7,8],[]⟩ Tryz.func32 follows fun Q hQ=>?_
 obtain⟨c,hc,h⟩:=Ad h
 refine mE 2 [(2,fk (FW _ _ _ hc))] h (fun v6=>⟨[(6,bP v6)],[[iP c.2.At,iP c.2.E]]⟩) ?_ fun y e1 hJ=>?_
 rintro v6 h
 cases h
 exact rt 0 [] hQ
 rcases An e1 with⟨hc1,e1⟩|⟨hc1,e1⟩
 exact mJ 1 [(1,fl Ak c.1),(1,fo hc1)] (hJ _ (oj e1))
 exact mJ 1 [(1,fl Ak c.1),(1,fo hc1)] (hJ _ (oj e1))
theorem RJ (n:Nat)(r:Bool)(h:K0 n=some r):CZ Tryz.prog 10 [] (bP r):=by
 unfold K0 at h
 refine vP ⟨[0,1,2,3,4,5,6,7,10,11,12,13,14,15,18,19,20,21,22,23,24,25,26,27,28,29,47,115,210,250],[(7,[9999,0,0,1,2,3,4,5,6,7,8,9,10,11,12,13]),(8,[9999,0,0,1,2,3,4,5,6,7,8,9,10,11,12,13]),(9,[9999,0,0,1,2,3,4,5,6,7,8,9,10,11,12,13]),(10,[9999,0,0,1,2,3,4,5,6,7,8,9,10,11,12,13]),(11,[9999,0,3,0,1,2,4,5,6,7,8,9]),(12,[9995]),(13,[9999,0,3,0,1,2,4,5,6,7,8,9])]⟩ Tryz.func10 follows fun Q hQ=>?_
 obtain⟨s,hs,h⟩:=Ad h
 obtain⟨c,hc,h⟩:=Ad h
 refine mE 2 [(1,fk (RI _ hs)),(0,fk (FW _ _ _ hc))] h (fun v47=>⟨[(0,bP false),(1,hC c.1),(47,bP v47)],[[iP c.2.At,iP c.2.E]]⟩) ?_ fun y e hJ=>?_
 rintro v47 h
 refine cD 0 [] h (fun hc34 h=>?_) fun hc34 h=>?_
 cases h
 exact rt 1 [] hQ
 refine mE 0 [] h (fun v115=>⟨[(0,bP false),(1,hC c.1),(115,bP v115)],[[iP c.2.At,iP c.2.E]]⟩) ?_ fun y1 e1 hJ1=>?_
 rintro v115 h
 refine cD 0 [] h (fun hc24 h=>?_) fun hc24 h=>?_
 cases h
 exact rt 1 [] hQ
 obtain⟨l,hl,h⟩:=Ad h
 obtain⟨x,hx,h⟩:=Ad h
 obtain⟨s1,hs1,h⟩:=Ad h
 obtain⟨s2,hs2,h⟩:=Ad h
 obtain⟨x1,hx1,h⟩:=Ad h
 obtain⟨s3,hs3,h⟩:=Ad h
 obtain⟨s4,hs4,h⟩:=Ad h
 obtain⟨n_,hn_,h⟩:=Ad h
 obtain⟨n_1,hn_1,h⟩:=Ad h
 obtain⟨t,ht,h⟩:=Ad h
 obtain⟨v_,hv_,h⟩:=Ad h
 obtain⟨n_2,hn_2,h⟩:=Ad h
 obtain⟨l1,hl1,h⟩:=Ad h
 obtain⟨n_3,hn_3,h⟩:=Ad h
 obtain⟨t1,ht1,h⟩:=Ad h
 obtain⟨v_1,hv_1,h⟩:=Ad h
 refine wl 6 [(1,fB EJ hl),(4,fi Ak hx),(2,fk (H4 _ _ _ _ _ hs1)),(10,fi Ak hx),(2,fk (H4 _ _ _ _ _ hs2)),(10,fi Ak hx1),(2,fk (H4 _ _ _ _ _ hs3)),(10,fi Ak hx1),(2,fk (H4 _ _ _ _ _ hs4)),(10,fk (Ls _ _ hn_)),(0,fk (H5 _ _ hn_1)),(0,fk (Ko _ _ _ _ ht)),(0,fk (GN _ _ _ _ _ hv_))] ?_
 refine xE 2 [.call (.agg [iP n_2.Op,iP n_2.N,tP n_2.S,hX n_2.Kids,iP n_2.At]),.val (oX l1),.no,.call (.agg [iP n_3.Op,iP n_3.N,tP n_3.S,hX n_3.Kids,iP n_3.At]),.call (.agg [iP t1.Op,iP t1.N,tP t1.S,hX t1.Kids,iP t1.At]),.no,.call (.tup [iP v_1.1,iP v_1.2]),.no,.no,.no,.no,.no] ⟨[(0,bP false),(1,hC c.1),(3,.ptr 1 0),(4,iP s1.1),(5,iP s1.2.1),(6,bP s1.2.2.1),(7,iP s1.2.2.2),(10,bP s2.2.2.1),(11,iP s2.2.2.2),(12,iP s3.1),(13,iP s3.2.1),(14,bP s3.2.2.1),(15,iP s3.2.2.2),(18,bP s4.2.2.1),(19,iP s4.2.2.2),(20,iP v_.1),(21,iP v_.2),(22,iP v_1.1),(23,iP v_1.2)],[[iP c.2.At,iP c.2.E],[hZ l,iP 10,iP 4]]⟩ (And.intro (H5 3 n_2 hn_2) (And.intro (And.intro (fB A7 hl1).h (And.intro (H5 9 n_3 hn_3) (And.intro (Ko 11 (Aa.mk 4 0 ⟨#[100,97,121]⟩ l1 0) n_3 t1 ht1) (And.intro (GN n t1 (BG.mk l 10 4) 0 v_1 hv_1) True.intro)))) (And.intro (And.intro (H5 9 n_3 hn_3) (And.intro (fB A7 hl1).h (And.intro (Ko 11 (Aa.mk 4 0 ⟨#[100,97,121]⟩ l1 0) n_3 t1 ht1) (And.intro (GN n t1 (BG.mk l 10 4) 0 v_1 hv_1) True.intro)))) True.intro))) ?_
 obtain⟨n_4,hn_4,h⟩:=Ad h
 obtain⟨n_5,hn_5,h⟩:=Ad h
 obtain⟨t2,ht2,h⟩:=Ad h
 obtain⟨v_2,hv_2,h⟩:=Ad h
 refine mE 1 [(1,fk (Ls _ _ hn_4)),(0,fk (Ls _ _ hn_5)),(0,fk (Ko _ _ _ _ ht2)),(0,fk (GN _ _ _ _ _ hv_2))] h (fun v210=>⟨[(0,bP false),(1,hC c.1),(4,iP s1.1),(5,iP s1.2.1),(6,bP s1.2.2.1),(10,bP s2.2.2.1),(12,iP s3.1),(13,iP s3.2.1),(14,bP s3.2.2.1),(18,bP s4.2.2.1),(20,iP v_.1),(22,iP v_1.1),(24,iP v_2.1),(210,bP v210)],[[iP c.2.At,iP c.2.E],[hZ l,iP 10,iP 4]]⟩) ?_ fun y2 e2 hJ2=>?_
 rintro v210 h
 refine cD 0 [] h (fun hc17 h=>?_) fun hc17 h=>?_
 cases h
 exact rt 1 [] hQ
 refine mE 0 [] h (fun v250=>⟨[(0,bP false),(1,hC c.1),(250,bP v250)],[[iP c.2.At,iP c.2.E],[hZ l,iP 10,iP 4]]⟩) ?_ fun y3 e3 hJ3=>?_
 rintro v250 h
 refine cD 0 [] h (fun hc6 h=>?_) fun hc6 h=>?_
 cases h
 exact rt 1 [] hQ
 obtain⟨s5,hs5,h⟩:=Ad h
 obtain⟨c1,hc1,h⟩:=Ad h
 refine mE 2 [(1,fk (HT _ _ _ hs5)),(6,fk (FW _ _ _ hc1))] h (fun v0_=>⟨[(0,bP v0_)],[[iP c.2.At,iP c.2.E],[hZ l,iP 10,iP 4],[iP c1.2.At,iP c1.2.E]]⟩) ?_ fun y4 e4 hJ4=>?_
 rintro v0_ h
 cases h
 exact rt 0 [] hQ
 rcases An e4 with⟨hc2,e4⟩|⟨hc2,e4⟩
 rcases An e4 with⟨hc3,e4⟩|⟨hc3,e4⟩
 obtain⟨s6,hs6,e4⟩:=Ad e4
 rcases An e4 with⟨hc4,e4⟩|⟨hc4,e4⟩
 obtain⟨f,hf,e4⟩:=Ad e4
 rcases An e4 with⟨hc5,e4⟩|⟨hc5,e4⟩
 obtain⟨f1,hf1,e4⟩:=Ad e4
 exact mJ 1 [(2,fo hc2),(4,fo hc3),(2,fk (F8 _ _ _ _ _ hs6)),(1,fo hc4),(0,fk (Kq _ _ _ _ _ hf)),(1,fo hc5),(0,fk (Kq _ _ _ _ _ hf1))] (hJ4 _ (oj e4))
 exact mJ 1 [(2,fo hc2),(4,fo hc3),(2,fk (F8 _ _ _ _ _ hs6)),(1,fo hc4),(0,fk (Kq _ _ _ _ _ hf)),(1,fo hc5)] (hJ4 _ (oj e4))
 exact mJ 1 [(2,fo hc2),(4,fo hc3),(2,fk (F8 _ _ _ _ _ hs6)),(1,fo hc4)] (hJ4 _ (oj e4))
 exact mJ 1 [(2,fo hc2),(4,fo hc3)] (hJ4 _ (oj e4))
 exact mJ 1 [(2,fo hc2)] (hJ4 _ (oj e4))
 rcases An e3 with⟨hc7,e3⟩|⟨hc7,e3⟩
 exact mJ 1 [(2,fo hc7)] (hJ3 _ (oj e3))
 rcases An e3 with⟨hc8,e3⟩|⟨hc8,e3⟩
 exact mJ 1 [(2,fo hc7),(3,fo hc8)] (hJ3 _ (oj e3))
 rcases An e3 with⟨hc9,e3⟩|⟨hc9,e3⟩
 exact mJ 1 [(2,fo hc7),(3,fo hc8),(2,fo hc9)] (hJ3 _ (oj e3))
 rcases An e3 with⟨hc10,e3⟩|⟨hc10,e3⟩
 exact mJ 1 [(2,fo hc7),(3,fo hc8),(2,fo hc9),(3,fo hc10)] (hJ3 _ (oj e3))
 rcases An e3 with⟨hc11,e3⟩|⟨hc11,e3⟩
 exact mJ 1 [(2,fo hc7),(3,fo hc8),(2,fo hc9),(3,fo hc10),(3,fo hc11)] (hJ3 _ (oj e3))
 rcases An e3 with⟨hc12,e3⟩|⟨hc12,e3⟩
 exact mJ 1 [(2,fo hc7),(3,fo hc8),(2,fo hc9),(3,fo hc10),(3,fo hc11),(3,fo hc12)] (hJ3 _ (oj e3))
 rcases An e3 with⟨hc13,e3⟩|⟨hc13,e3⟩
 exact mJ 1 [(2,fo hc7),(3,fo hc8),(2,fo hc9),(3,fo hc10),(3,fo hc11),(3,fo hc12),(2,fo hc13)] (hJ3 _ (oj e3))
 rcases An e3 with⟨hc14,e3⟩|⟨hc14,e3⟩
 exact mJ 1 [(2,fo hc7),(3,fo hc8),(2,fo hc9),(3,fo hc10),(3,fo hc11),(3,fo hc12),(2,fo hc13),(3,fo hc14)] (hJ3 _ (oj e3))
 rcases An e3 with⟨hc15,e3⟩|⟨hc15,e3⟩
 exact mJ 1 [(2,fo hc7),(3,fo hc8),(2,fo hc9),(3,fo hc10),(3,fo hc11),(3,fo hc12),(2,fo hc13),(3,fo hc14),(3,fo hc15)] (hJ3 _ (oj e3))
 rcases An e3 with⟨hc16,e3⟩|⟨hc16,e3⟩
 exact mJ 1 [(2,fo hc7),(3,fo hc8),(2,fo hc9),(3,fo hc10),(3,fo hc11),(3,fo hc12),(2,fo hc13),(3,fo hc14),(3,fo hc15),(3,fo hc16)] (hJ3 _ (oj e3))
 exact mJ 1 [(2,fo hc7),(3,fo hc8),(2,fo hc9),(3,fo hc10),(3,fo hc11),(3,fo hc12),(2,fo hc13),(3,fo hc14),(3,fo hc15),(3,fo hc16)] (hJ3 _ (oj e3))
 rcases An e2 with⟨hc18,e2⟩|⟨hc18,e2⟩
 exact mJ 1 [(2,fo hc18)] (hJ2 _ (oj e2))
 rcases An e2 with⟨hc19,e2⟩|⟨hc19,e2⟩
 exact mJ 1 [(2,fo hc18),(3,fo hc19)] (hJ2 _ (oj e2))
 rcases An e2 with⟨hc20,e2⟩|⟨hc20,e2⟩
 exact mJ 1 [(2,fo hc18),(3,fo hc19),(3,fo hc20)] (hJ2 _ (oj e2))
 rcases An e2 with⟨hc21,e2⟩|⟨hc21,e2⟩
 exact mJ 1 [(2,fo hc18),(3,fo hc19),(3,fo hc20),(3,fo hc21)] (hJ2 _ (oj e2))
 rcases An e2 with⟨hc22,e2⟩|⟨hc22,e2⟩
 exact mJ 1 [(2,fo hc18),(3,fo hc19),(3,fo hc20),(3,fo hc21),(3,fo hc22)] (hJ2 _ (oj e2))
 rcases An e2 with⟨hc23,e2⟩|⟨hc23,e2⟩
 exact mJ 1 [(2,fo hc18),(3,fo hc19),(3,fo hc20),(3,fo hc21),(3,fo hc22),(3,fo hc23)] (hJ2 _ (oj e2))
 exact mJ 1 [(2,fo hc18),(3,fo hc19),(3,fo hc20),(3,fo hc21),(3,fo hc22),(3,fo hc23)] (hJ2 _ (oj e2))
 obtain⟨x2,hx2,e1⟩:=Ad e1
 rcases An e1 with⟨hc25,e1⟩|⟨hc25,e1⟩
 exact mJ 1 [(1,fi Ak hx2),(3,fo hc25)] (hJ1 _ (oj e1))
 rcases An e1 with⟨hc26,e1⟩|⟨hc26,e1⟩
 exact mJ 1 [(1,fi Ak hx2),(3,fo hc25),(1,fi Ak hx2),(4,fo hc26)] (hJ1 _ (oj e1))
 rcases An e1 with⟨hc27,e1⟩|⟨hc27,e1⟩
 exact mJ 1 [(1,fi Ak hx2),(3,fo hc25),(1,fi Ak hx2),(4,fo hc26),(1,fi Ak hx2),(4,fo hc27)] (hJ1 _ (oj e1))
 rcases An e1 with⟨hc28,e1⟩|⟨hc28,e1⟩
 exact mJ 1 [(1,fi Ak hx2),(3,fo hc25),(1,fi Ak hx2),(4,fo hc26),(1,fi Ak hx2),(4,fo hc27),(1,fi Ak hx2),(4,fo hc28)] (hJ1 _ (oj e1))
 rcases An e1 with⟨hc29,e1⟩|⟨hc29,e1⟩
 exact mJ 1 [(1,fi Ak hx2),(3,fo hc25),(1,fi Ak hx2),(4,fo hc26),(1,fi Ak hx2),(4,fo hc27),(1,fi Ak hx2),(4,fo hc28),(1,fi Ak hx2),(4,fo hc29)] (hJ1 _ (oj e1))
 obtain⟨x3,hx3,e1⟩:=Ad e1
 rcases An e1 with⟨hc30,e1⟩|⟨hc30,e1⟩
 exact mJ 1 [(1,fi Ak hx2),(3,fo hc25),(1,fi Ak hx2),(4,fo hc26),(1,fi Ak hx2),(4,fo hc27),(1,fi Ak hx2),(4,fo hc28),(1,fi Ak hx2),(4,fo hc29),(1,fi Ak hx3),(4,fo hc30)] (hJ1 _ (oj e1))
 rcases An e1 with⟨hc31,e1⟩|⟨hc31,e1⟩
 exact mJ 1 [(1,fi Ak hx2),(3,fo hc25),(1,fi Ak hx2),(4,fo hc26),(1,fi Ak hx2),(4,fo hc27),(1,fi Ak hx2),(4,fo hc28),(1,fi Ak hx2),(4,fo hc29),(1,fi Ak hx3),(4,fo hc30),(1,fi Ak hx3),(4,fo hc31)] (hJ1 _ (oj e1))
 rcases An e1 with⟨hc32,e1⟩|⟨hc32,e1⟩
 exact mJ 1 [(1,fi Ak hx2),(3,fo hc25),(1,fi Ak hx2),(4,fo hc26),(1,fi Ak hx2),(4,fo hc27),(1,fi Ak hx2),(4,fo hc28),(1,fi Ak hx2),(4,fo hc29),(1,fi Ak hx3),(4,fo hc30),(1,fi Ak hx3),(4,fo hc31),(1,fi Ak hx3),(4,fo hc32)] (hJ1 _ (oj e1))
 rcases An e1 with⟨hc33,e1⟩|⟨hc33,e1⟩
 exact mJ 1 [(1,fi Ak hx2),(3,fo hc25),(1,fi Ak hx2),(4,fo hc26),(1,fi Ak hx2),(4,fo hc27),(1,fi Ak hx2),(4,fo hc28),(1,fi Ak hx2),(4,fo hc29),(1,fi Ak hx3),(4,fo hc30),(1,fi Ak hx3),(4,fo hc31),(1,fi Ak hx3),(4,fo hc32),(1,fi Ak hx3),(4,fo hc33)] (hJ1 _ (oj e1))
 exact mJ 1 [(1,fi Ak hx2),(3,fo hc25),(1,fi Ak hx2),(4,fo hc26),(1,fi Ak hx2),(4,fo hc27),(1,fi Ak hx2),(4,fo hc28),(1,fi Ak hx2),(4,fo hc29),(1,fi Ak hx3),(4,fo hc30),(1,fi Ak hx3),(4,fo hc31),(1,fi Ak hx3),(4,fo hc32),(1,fi Ak hx3),(4,fo hc33),(1,fi Ak hx3)] (hJ1 _ (oj e1))
 rcases An e with⟨hc35,e⟩|⟨hc35,e⟩
 exact mJ 1 [(3,fo hc35)] (hJ _ (oj e))
 rcases An e with⟨hc36,e⟩|⟨hc36,e⟩
 exact mJ 1 [(3,fo hc35),(1,fl Ak c.1),(2,fo hc36)] (hJ _ (oj e))
 obtain⟨c2,hc210,e⟩:=Ad e
 exact mJ 1 [(3,fo hc35),(1,fl Ak c.1),(2,fo hc36),(1,fk (EB _ _ _ hc210))] (hJ _ (oj e))
theorem N3 (r:Bool)(h:UX=some r):CZ Tryz.prog 10 [] (bP r):=RJ 60 r h
end Go.Proofs.YtkcfmlfkfagejaaGreatDoor
namespace Go.Proofs.YtkcfmlfkfagejaaGreatDoor
open Go.RowKit Go.Q Go.Vl Go.Sp
set_option maxRecDepth 100000
set_option linter.unusedSimpArgs false
set_option maxHeartbeats 4000000
set_option linter.unusedVariables false
theorem J9 (n:Nat)(l:(List Ag))(r:Bool)(h:DA n l=some r):CZ Tryz.prog 4 [hC l] (bP r):=by
 unfold DA at h
 refine vP ⟨[0,2,3,4,5,6,7,8,9,13,21],[]⟩ Tryz.func4 follows fun Q hQ=>?_
 obtain⟨few,hfew,h⟩:=Ad h
 refine cD 3 [(2,fk (Wr _ _ _ _ hfew))] h (fun hc8 h=>?_) fun hc8 h=>?_
 obtain⟨s,hs,h⟩:=Ad h
 cases h
 exact rt 1 [(0,fk (N3 _ hs))] hQ
 obtain⟨s1,hs1,h⟩:=Ad h
 refine cD 2 [(1,fk (HT _ _ _ hs1))] h (fun hc7 h=>?_) fun hc7 h=>?_
 refine mE 0 [] h (fun v2=>⟨[(0,hC l),(2,bP v2),(4,tP s1.1)],[]⟩) ?_ fun y e hJ=>?_
 rintro v2 h
 cases h
 exact rt 0 [] hQ
 obtain⟨s2,hs2,e⟩:=Ad e
 rcases An e with⟨hc,e⟩|⟨hc,e⟩
 exact mJ 1 [(0,fk (N3 _ hs2)),(0,fo hc)] (hJ _ (oj e))
 exact mJ 1 [(0,fk (N3 _ hs2)),(0,fo hc)] (hJ _ (oj e))
 obtain⟨c,hc1,h⟩:=Ad h
 obtain⟨s3,hs3,h⟩:=Ad h
 refine mE 2 [(1,fk (FW _ _ _ hc1)),(7,fk (HT _ _ _ hs3))] h (fun v21=>⟨[(2,bP v21)],[[iP c.2.At,iP c.2.E]]⟩) ?_ fun y1 e1 hJ1=>?_
 rintro v21 h
 cases h
 exact rt 0 [] hQ
 obtain⟨s4,hs4,e1⟩:=Ad e1
 rcases An e1 with⟨hc2,e1⟩|⟨hc2,e1⟩
 rcases An e1 with⟨hc3,e1⟩|⟨hc3,e1⟩
 obtain⟨s5,hs5,e1⟩:=Ad e1
 rcases An e1 with⟨hc4,e1⟩|⟨hc4,e1⟩
 obtain⟨c1,hc11,e1⟩:=Ad e1
 rcases An e1 with⟨hc5,e1⟩|⟨hc5,e1⟩
 rcases An e1 with⟨hc6,e1⟩|⟨hc6,e1⟩
 exact mJ 1 [(0,fk (N3 _ hs4)),(0,fo hc2),(4,fo hc3),(2,fk (F8 _ _ _ _ _ hs5)),(1,fo hc4),(1,fk (EB _ _ _ hc11)),(2,fo hc5),(3,fo hc6)] (hJ1 _ (oj e1))
 exact mJ 1 [(0,fk (N3 _ hs4)),(0,fo hc2),(4,fo hc3),(2,fk (F8 _ _ _ _ _ hs5)),(1,fo hc4),(1,fk (EB _ _ _ hc11)),(2,fo hc5),(3,fo hc6)] (hJ1 _ (oj e1))
 exact mJ 1 [(0,fk (N3 _ hs4)),(0,fo hc2),(4,fo hc3),(2,fk (F8 _ _ _ _ _ hs5)),(1,fo hc4),(1,fk (EB _ _ _ hc11)),(2,fo hc5)] (hJ1 _ (oj e1))
 exact mJ 1 [(0,fk (N3 _ hs4)),(0,fo hc2),(4,fo hc3),(2,fk (F8 _ _ _ _ _ hs5)),(1,fo hc4)] (hJ1 _ (oj e1))
 exact mJ 1 [(0,fk (N3 _ hs4)),(0,fo hc2),(4,fo hc3)] (hJ1 _ (oj e1))
 exact mJ 1 [(0,fk (N3 _ hs4)),(0,fo hc2)] (hJ1 _ (oj e1))
end Go.Proofs.YtkcfmlfkfagejaaGreatDoor
