/-
  The walks of chapter 33: values: the program computes the plain functions. (Printed by lift.py.)
-/
import Derived.Test.YtkcfmlfkfagejaaGreatDoorU48
set_option linter.unusedVariables false
set_option linter.unusedSimpArgs false
namespace Go.Proofs.YtkcfmlfkfagejaaGreatDoor
open Go.RowKit Go.Q Go.Vl Go.Sp
set_option maxRecDepth 100000
set_option linter.unusedSimpArgs false
set_option maxHeartbeats 4000000
set_option linter.unusedVariables false
theorem Gw (n:Nat)(c:Aj)(d:Au)(known:Int)(r:Bool)(h:BP n c d known=some r):Cd Tryz.prog 3 [.agg [tP c.Name,iP c.Kind,iP c.Rank,iP c.Known,iP c.From.Op,iP c.From.N,tP c.From.S,hX c.From.Kids,iP c.From.At,iP c.To.Op,iP c.To.N,tP c.To.S,hX c.To.Kids,iP c.To.At,iP c.When.Op,iP c.When.N,tP c.When.S,hX c.When.Kids,iP c.When.At,iP c.Houses],.agg [hZ d.Facts,iP d.Stored,iP d.Owner],iP known] (bP r):=by
 unfold BP at h
 refine vP ⟨[0,1,2,3,4,6,7,8,9,10,11,12,13,14,15,16,17,28,38,67],[(8,[9999,0,0,1,2,3,4,5,6,7,8,9,10,11]),(9,[9995]),(14,[9999,0,0,1,2,3,5,6,4,7,8,9,10,11,12,13,14,15,16,17,18,19,20,21,22,23,24,25,26,27,28,29,30,31,32,33,34])]⟩ Tryz.func3 follows fun Q hQ=>?_
 obtain⟨l,hl,h⟩:=Ac h
 obtain⟨few,hfew,h⟩:=Ac h
 refine mE 2 [(4,fB Ai hl),(0,fk (T5 _ _ _ _ hfew))] h (fun v28=>⟨[(2,iP known),(3,.ptr 0 0),(4,.ptr 1 0),(6,bP false),(28,bP v28)],[[tP c.Name,iP c.Kind,iP c.Rank,iP c.Known,iP c.From.Op,iP c.From.N,tP c.From.S,hX c.From.Kids,iP c.From.At,iP c.To.Op,iP c.To.N,tP c.To.S,hX c.To.Kids,iP c.To.At,iP c.When.Op,iP c.When.N,tP c.When.S,hX c.When.Kids,iP c.When.At,iP c.Houses],[hZ d.Facts,iP d.Stored,iP d.Owner]]⟩) ?_ fun y e hJ=>?_
 rintro v28 h
 refine cD 0 [] h (fun hc8 h=>?_) fun hc8 h=>?_
 obtain⟨s,hs,h⟩:=Ac h
 cases h
 exact rt 1 [(0,fk (Oo _ hs))] hQ
 obtain⟨l1,hl1,h⟩:=Ac h
 refine mI 2 [(6,fB A2 hl1)] h (fun _=>⟨[(2,iP known),(3,.ptr 0 0),(4,.ptr 1 0),(6,bP false)],[[tP c.Name,iP c.Kind,iP c.Rank,iP c.Known,iP c.From.Op,iP c.From.N,tP c.From.S,hX c.From.Kids,iP c.From.At,iP c.To.Op,iP c.To.N,tP c.To.S,hX c.To.Kids,iP c.To.At,iP c.When.Op,iP c.When.N,tP c.When.S,hX c.When.Kids,iP c.When.At,iP c.Houses],[hZ d.Facts,iP d.Stored,iP d.Owner]]⟩) ?_ fun y1 e1 h hJ1=>?_
 rintro _ h
 obtain⟨s1,hs1,h⟩:=Ac h
 obtain⟨x,hx,h⟩:=Ac h
 refine mE 2 [(3,fk (F3 _ _ _ _ _ hs1)),(12,fk (RJ _ _ _ _ _ hx))] h (fun v6=>⟨[(6,bP v6)],[[tP c.Name,iP c.Kind,iP c.Rank,iP c.Known,iP c.From.Op,iP c.From.N,tP c.From.S,hX c.From.Kids,iP c.From.At,iP c.To.Op,iP c.To.N,tP c.To.S,hX c.To.Kids,iP c.To.At,iP c.When.Op,iP c.When.N,tP c.When.S,hX c.When.Kids,iP c.When.At,iP c.Houses],[hZ d.Facts,iP d.Stored,iP d.Owner],[iP x.From,iP x.To,bP x.Is,iP x.E]]⟩) ?_ fun y2 e2 hJ2=>?_
 rintro v6 h
 cases h
 exact rt 0 [] hQ
 obtain⟨s2,hs2,e2⟩:=Ac e2
 rcases Ak e2 with⟨hc,e2⟩|⟨hc,e2⟩
 obtain⟨k,hk,e2⟩:=Ac e2
 obtain⟨k1,hk1,e2⟩:=Ac e2
 rcases Ak e2 with⟨hc1,e2⟩|⟨hc1,e2⟩
 rcases Ak e2 with⟨hc2,e2⟩|⟨hc2,e2⟩
 rcases Ak e2 with⟨hc3,e2⟩|⟨hc3,e2⟩
 rcases Ak e2 with⟨hc4,e2⟩|⟨hc4,e2⟩
 exact mJ 1 [(0,fk (Oo _ hs2)),(0,fo hc),(4,fk (Dk _ _ _ _ hk)),(0,fk (En _ _ _ _ hk1)),(2,fo hc1),(5,fo hc2),(5,fo hc3),(5,fo hc4)] (hJ2 _ (oj e2))
 exact mJ 1 [(0,fk (Oo _ hs2)),(0,fo hc),(4,fk (Dk _ _ _ _ hk)),(0,fk (En _ _ _ _ hk1)),(2,fo hc1),(5,fo hc2),(5,fo hc3),(5,fo hc4)] (hJ2 _ (oj e2))
 exact mJ 1 [(0,fk (Oo _ hs2)),(0,fo hc),(4,fk (Dk _ _ _ _ hk)),(0,fk (En _ _ _ _ hk1)),(2,fo hc1),(5,fo hc2),(5,fo hc3)] (hJ2 _ (oj e2))
 exact mJ 1 [(0,fk (Oo _ hs2)),(0,fo hc),(4,fk (Dk _ _ _ _ hk)),(0,fk (En _ _ _ _ hk1)),(2,fo hc1),(5,fo hc2)] (hJ2 _ (oj e2))
 exact mJ 1 [(0,fk (Oo _ hs2)),(0,fo hc),(4,fk (Dk _ _ _ _ hk)),(0,fk (En _ _ _ _ hk1)),(2,fo hc1)] (hJ2 _ (oj e2))
 exact mJ 1 [(0,fk (Oo _ hs2)),(0,fo hc)] (hJ2 _ (oj e2))
 refine lF 1 [] (A:=Int) (fun n k2=>A4 n l1 d known k2) (fun k2=>⟨[(2,iP known),(3,.ptr 0 0),(4,.ptr 1 0),(6,bP false),(8,oX l1),(9,iP k2)],[[tP c.Name,iP c.Kind,iP c.Rank,iP c.Known,iP c.From.Op,iP c.From.N,tP c.From.S,hX c.From.Kids,iP c.From.At,iP c.To.Op,iP c.To.N,tP c.To.S,hX c.To.Kids,iP c.To.At,iP c.When.Op,iP c.When.N,tP c.When.S,hX c.When.Kids,iP c.When.At,iP c.Houses],[hZ d.Facts,iP d.Stored,iP d.Owner]]⟩) 0 e1 (fun _=>rfl) ?_
 rintro n k2 e1 ih
 replace e1:=(A4.eq_2 ..).symm.trans e1
 refine cD 1 [] e1 (fun hc7 e1=>?_) fun hc7 e1=>?_
 obtain⟨x1,hx1,e1⟩:=Ac e1
 obtain⟨v_,hv_,e1⟩:=Ac e1
 obtain⟨x2,hx2,e1⟩:=Ac e1
 refine wl 2 [(2,fi A2 hx1),(3,fk (EV _ _ _ _ _ hv_))] ?_
 refine xE 2 [.no,.no,.val (.vptr [iP x1.Op,iP x1.N,tP x1.S,hX x1.Kids,iP x1.At] 0),.no,.no,.no,.call (.agg [iP x2.N,iP x2.E]),.no,.no] ⟨[(2,iP known),(3,.ptr 0 0),(4,.ptr 1 0),(6,bP false),(8,oX l1),(9,iP k2),(10,iP v_.1),(11,iP v_.2),(12,.ptr 2 0)],[[tP c.Name,iP c.Kind,iP c.Rank,iP c.Known,iP c.From.Op,iP c.From.N,tP c.From.S,hX c.From.Kids,iP c.From.At,iP c.To.Op,iP c.To.N,tP c.To.S,hX c.To.Kids,iP c.To.At,iP c.When.Op,iP c.When.N,tP c.When.S,hX c.When.Kids,iP c.When.At,iP c.Houses],[hZ d.Facts,iP d.Stored,iP d.Owner],[iP x2.N,iP x2.E]]⟩ (And.intro (oi hx1 GA (E1 x1)) (And.intro (And.intro (Ma n x1 d known x2 hx2) True.intro) (And.intro (And.intro (Ma n x1 d known x2 hx2) True.intro) True.intro))) ?_
 refine mE 0 [] e1 (fun v67=>⟨[(2,iP known),(3,.ptr 0 0),(4,.ptr 1 0),(6,bP false),(8,oX l1),(9,iP k2),(67,bP v67)],[[tP c.Name,iP c.Kind,iP c.Rank,iP c.Known,iP c.From.Op,iP c.From.N,tP c.From.S,hX c.From.Kids,iP c.From.At,iP c.To.Op,iP c.To.N,tP c.To.S,hX c.To.Kids,iP c.To.At,iP c.When.Op,iP c.When.N,tP c.When.S,hX c.When.Kids,iP c.When.At,iP c.Houses],[hZ d.Facts,iP d.Stored,iP d.Owner],[iP x2.N,iP x2.E]]⟩) ?_ fun y3 e3 hJ3=>?_
 rintro v67 e1
 refine cD 0 [] e1 (fun hc5 e1=>?_) fun hc5 e1=>?_
 cases e1
 cases h
 exact rt 1 [] hQ
 exact mJ 1 [] (ih _ e1)
 rcases Ak e3 with⟨hc6,e3⟩|⟨hc6,e3⟩
 exact mJ 1 [(4,fo hc6)] (hJ3 _ (oj e3))
 exact mJ 1 [(4,fo hc6)] (hJ3 _ (oj e3))
 exact mJ 1 [] (hJ1 _ (oj e1))
 rcases Ak e with⟨hc9,e⟩|⟨hc9,e⟩
 exact mJ 1 [(2,fo hc9)] (hJ _ (oj e))
 exact mJ 1 [(2,fo hc9),(2,fl BT d.Facts)] (hJ _ (oj e))
end Go.Proofs.YtkcfmlfkfagejaaGreatDoor
