/-
  The walks of chapter 33: learns: the program computes the plain functions. (Printed by lift.py.)
-/
import Derived.Test.YtkcfmlfkfagejaaGreatDoorU48
set_option linter.unusedVariables false
set_option linter.unusedSimpArgs false
namespace Go.Proofs.YtkcfmlfkfagejaaGreatDoor
open Go.RowKit Go.Q Go.Vl Go.Sp
set_option maxRecDepth 100000
set_option linter.unusedSimpArgs false
set_option maxHeartbeats 4000000
set_option linter.unusedVariables false
theorem IW (n:Nat)(e:Ab)(d:A1)(days:(Int×Int))(at_:Int)(r:Bool)(h:Du n e d days at_=some r):C1 Tryz.prog 6 [.agg [iP e.Op,iP e.N,tP e.S,hX e.Kids,iP e.At],.agg [hZ d.Facts,iP d.Stored,iP d.Owner],.agg [iP days.1,iP days.2],uP at_] (bP r):=by
 unfold Du at h
 refine vP ⟨[0,1,2,3,4,5,6,8,9,10,11,12,13,14,15,16,17,18,19,20,21,52,71,82,108,117,126,156,172,177],[(9,[9999,0,0,1,2,3,4,5,6,7,8]),(10,[9999,0,0,1,2,3,4,5,6,7,8,9,10]),(21,[9999,0,0,1,2,3,4,5,6,7,8,9,10,11,12,13,14,15,16,17,18,19,20,21,22,23,24,25,26,27]),(23,[9999,0,0,1,2,3,4,5,6,7,8,9,10]),(28,[9999,0,0,1,2,3,4,5,6,7,8,9,10])]⟩ Tryz.func6 follows fun Q hQ=>?_
 obtain⟨few,hfew,h⟩:=Ae h
 refine mE 2 [(5,fk (Mh _ _ _ _ hfew))] h (fun v52=>⟨[(3,uP at_),(4,.ptr 0 0),(5,.ptr 1 0),(6,.ptr 2 0),(8,bP false),(52,bP v52)],[[iP e.Op,iP e.N,tP e.S,hX e.Kids,iP e.At],[hZ d.Facts,iP d.Stored,iP d.Owner],[iP days.1,iP days.2]]⟩) ?_ fun y e1 hJ=>?_
 rintro v52 h
 refine cD 0 [] h (fun hc12 h=>?_) fun hc12 h=>?_
 obtain⟨s,hs,h⟩:=Ae h
 cases h
 exact rt 1 [(0,fk (PD _ hs))] hQ
 obtain⟨v_,hv_,h⟩:=Ae h
 refine mE 3 [(4,fk (CH _ _ _ _ _ hv_))] h (fun early=>⟨[(3,uP at_),(4,.ptr 0 0),(5,.ptr 1 0),(6,.ptr 2 0),(8,bP false),(10,iP v_.1),(11,iP v_.2),(12,.ptr 3 0)],[[iP e.Op,iP e.N,tP e.S,hX e.Kids,iP e.At],[hZ d.Facts,iP d.Stored,iP d.Owner],[iP days.1,iP days.2],[oZ early,iP d.Stored,iP d.Owner]]⟩) ?_ fun y1 e2 hJ1=>?_
 rintro early h
 obtain⟨v_1,hv_1,h⟩:=Ae h
 refine mE 1 [(4,fk (CH _ _ _ _ _ hv_1))] h (fun v108=>⟨[(3,uP at_),(4,.ptr 0 0),(5,.ptr 1 0),(6,.ptr 2 0),(8,bP false),(10,iP v_.1),(11,iP v_.2),(108,bP v108)],[[iP e.Op,iP e.N,tP e.S,hX e.Kids,iP e.At],[hZ d.Facts,iP d.Stored,iP d.Owner],[iP days.1,iP days.2],[oZ early,iP d.Stored,iP d.Owner]]⟩) ?_ fun y2 e3 hJ2=>?_
 rintro v108 h
 refine cD 0 [] h (fun hc8 h=>?_) fun hc8 h=>?_
 cases h
 exact rt 1 [] hQ
 refine mI 3 [(10,fl AD d.Facts)] h (fun (k,turned)=>⟨[(4,.ptr 0 0),(5,.ptr 1 0),(6,.ptr 2 0),(8,bP false),(10,iP v_.1),(11,iP v_.2),(16,.ptr 4 0),(17,iP k)],[[iP e.Op,iP e.N,tP e.S,hX e.Kids,iP e.At],[hZ d.Facts,iP d.Stored,iP d.Owner],[iP days.1,iP days.2],[oZ early,iP d.Stored,iP d.Owner],[oZ turned,iP d.Stored,iP d.Owner]]⟩) ?_ fun y3 e4 h hJ3=>?_
 rintro⟨k,turned⟩ h
 refine mE 1 [] h (fun turned1=>⟨[(4,.ptr 0 0),(6,.ptr 2 0),(8,bP false),(10,iP v_.1),(11,iP v_.2),(16,.ptr 4 0)],[[iP e.Op,iP e.N,tP e.S,hX e.Kids,iP e.At],[hZ d.Facts,iP d.Stored,iP d.Owner],[iP days.1,iP days.2],[oZ early,iP d.Stored,iP d.Owner],[oZ turned1,iP d.Stored,iP d.Owner]]⟩) ?_ fun y4 e5 hJ4=>?_
 rintro turned1 h
 obtain⟨v_2,hv_2,h⟩:=Ae h
 refine mE 1 [(4,fk (CH _ _ _ _ _ hv_2))] h (fun v8=>⟨[(8,bP v8)],[[iP e.Op,iP e.N,tP e.S,hX e.Kids,iP e.At],[hZ d.Facts,iP d.Stored,iP d.Owner],[iP days.1,iP days.2],[oZ early,iP d.Stored,iP d.Owner],[oZ turned1,iP d.Stored,iP d.Owner]]⟩) ?_ fun y5 e6 hJ5=>?_
 rintro v8 h
 cases h
 exact rt 0 [] hQ
 obtain⟨s1,hs1,e6⟩:=Ae e6
 rcases Ar e6 with⟨hc,e6⟩|⟨hc,e6⟩
 rcases Ar e6 with⟨hc1,e6⟩|⟨hc1,e6⟩
 exact mJ 1 [(0,fk (PD _ hs1)),(0,fo hc),(4,fo hc1)] (hJ5 _ (oj e6))
 exact mJ 1 [(0,fk (PD _ hs1)),(0,fo hc),(4,fo hc1)] (hJ5 _ (oj e6))
 exact mJ 1 [(0,fk (PD _ hs1)),(0,fo hc)] (hJ5 _ (oj e6))
 refine lF 1 [] (A:=(Int×(List Az))) (fun n (i,turned2)=>AY n d k i turned2) (fun (i,turned2)=>⟨[(4,.ptr 0 0),(5,.ptr 1 0),(6,.ptr 2 0),(8,bP false),(10,iP v_.1),(11,iP v_.2),(16,.ptr 4 0),(17,iP k),(19,iP i)],[[iP e.Op,iP e.N,tP e.S,hX e.Kids,iP e.At],[hZ d.Facts,iP d.Stored,iP d.Owner],[iP days.1,iP days.2],[oZ early,iP d.Stored,iP d.Owner],[oZ turned2,iP d.Stored,iP d.Owner]]⟩) (0,turned) e5 (fun _=>rfl) ?_
 rintro n ⟨i,turned2⟩ e5 ih
 replace e5:=(AY.eq_2 ..).symm.trans e5
 refine cD 1 [(3,fl AD d.Facts)] e5 (fun hc3 e5=>?_) fun hc3 e5=>?_
 refine cD 2 [] e5 (fun hc2 e5=>?_) fun hc2 e5=>?_
 obtain⟨x,hx,e5⟩:=Ae e5
 obtain⟨l,hl,e5⟩:=Ae e5
 obtain⟨l1,hl1,e5⟩:=Ae e5
 exact mJ 2 [(5,fi AD hx),(1,fB AD hl),(0,fa AD hl1)] (ih (_,_) e5)
 exact mJ 1 [] (ih (_,_) e5)
 exact mJ 1 [] (hJ4 _ (oj e5))
 refine cD 0 [] e4 (fun hc7 e4=>?_) fun hc7 e4=>?_
 obtain⟨q,hq,e4⟩:=Ae e4
 refine mI 2 [(4,fl AD d.Facts),(0,fz .i64 hq)] e4 (fun _=>⟨[(4,.ptr 0 0),(5,.ptr 1 0),(6,.ptr 2 0),(8,bP false),(10,iP v_.1),(11,iP v_.2),(16,.ptr 4 0),(17,iP q)],[[iP e.Op,iP e.N,tP e.S,hX e.Kids,iP e.At],[hZ d.Facts,iP d.Stored,iP d.Owner],[iP days.1,iP days.2],[oZ early,iP d.Stored,iP d.Owner],[.sl [] .own,iP d.Stored,iP d.Owner]]⟩) ?_ fun y6 e7 e4 hJ6=>?_
 rintro _ e4
 obtain⟨x1,hx1,e4⟩:=Ae e4
 obtain⟨l2,hl2,e4⟩:=Ae e4
 obtain⟨l3,hl3,e4⟩:=Ae e4
 exact mJ 1 [(5,fi AD hx1),(1,fB AD hl2),(0,fa AD hl3)] (hJ3 _ (oj e4))
 refine lF 1 [] (A:=Int) (fun n i1=>AW n q d i1) (fun i1=>⟨[(4,.ptr 0 0),(5,.ptr 1 0),(6,.ptr 2 0),(8,bP false),(10,iP v_.1),(11,iP v_.2),(16,.ptr 4 0),(17,iP q),(18,iP i1)],[[iP e.Op,iP e.N,tP e.S,hX e.Kids,iP e.At],[hZ d.Facts,iP d.Stored,iP d.Owner],[iP days.1,iP days.2],[oZ early,iP d.Stored,iP d.Owner],[.sl [] .own,iP d.Stored,iP d.Owner]]⟩) 0 e7 (fun _=>rfl) ?_
 rintro n i1 e7 ih1
 replace e7:=(AW.eq_2 ..).symm.trans e7
 refine cD 1 [] e7 (fun hc6 e7=>?_) fun hc6 e7=>?_
 refine mE 1 [] e7 (fun v156=>⟨[(4,.ptr 0 0),(5,.ptr 1 0),(6,.ptr 2 0),(8,bP false),(10,iP v_.1),(11,iP v_.2),(16,.ptr 4 0),(17,iP q),(18,iP i1),(156,bP v156)],[[iP e.Op,iP e.N,tP e.S,hX e.Kids,iP e.At],[hZ d.Facts,iP d.Stored,iP d.Owner],[iP days.1,iP days.2],[oZ early,iP d.Stored,iP d.Owner],[.sl [] .own,iP d.Stored,iP d.Owner]]⟩) ?_ fun y7 e8 hJ7=>?_
 rintro v156 e7
 refine cD 0 [] e7 (fun hc4 e7=>?_) fun hc4 e7=>?_
 obtain⟨s2,hs2,e7⟩:=Ae e7
 cases e7
 cases e4
 cases h
 exact rt 1 [(0,fk (PD _ hs2))] hQ
 exact mJ 1 [] (ih1 _ e7)
 obtain⟨x2,hx2,e8⟩:=Ae e8
 obtain⟨x3,hx3,e8⟩:=Ae e8
 rcases Ar e8 with⟨hc5,e8⟩|⟨hc5,e8⟩
 exact mJ 1 [(3,fi AD hx2),(5,fi AD hx3),(3,fo hc5),(3,fi AD hx2),(5,fi AD hx3)] (hJ7 _ (oj e8))
 exact mJ 1 [(3,fi AD hx2),(5,fi AD hx3),(3,fo hc5)] (hJ7 _ (oj e8))
 exact mJ 1 [] (hJ6 _ (oj e7))
 exact mJ 0 [] (hJ3 _ (oj e4))
 rcases Ar e3 with⟨hc9,e3⟩|⟨hc9,e3⟩
 exact mJ 1 [(3,fo hc9)] (hJ2 _ (oj e3))
 exact mJ 1 [(3,fo hc9)] (hJ2 _ (oj e3))
 refine lF 1 [] (A:=(Int×(List Az))) (fun n (k1,early1)=>AV n d days k1 early1) (fun (k1,early1)=>⟨[(3,uP at_),(4,.ptr 0 0),(5,.ptr 1 0),(6,.ptr 2 0),(8,bP false),(10,iP v_.1),(11,iP v_.2),(12,.ptr 3 0),(13,iP k1)],[[iP e.Op,iP e.N,tP e.S,hX e.Kids,iP e.At],[hZ d.Facts,iP d.Stored,iP d.Owner],[iP days.1,iP days.2],[oZ early1,iP d.Stored,iP d.Owner]]⟩) (0,[]) e2 (fun _=>rfl) ?_
 rintro n ⟨k1,early1⟩ e2 ih2
 replace e2:=(AV.eq_2 ..).symm.trans e2
 refine cD 1 [(3,fl AD d.Facts)] e2 (fun hc11 e2=>?_) fun hc11 e2=>?_
 obtain⟨x4,hx4,e2⟩:=Ae e2
 refine cD 2 [(3,fi AD hx4)] e2 (fun hc10 e2=>?_) fun hc10 e2=>?_
 obtain⟨l4,hl4,e2⟩:=Ae e2
 obtain⟨l5,hl5,e2⟩:=Ae e2
 exact mJ 2 [(5,fi AD hx4),(1,fB AD hl4),(0,fa AD hl5)] (ih2 (_,_) e2)
 exact mJ 1 [] (ih2 (_,_) e2)
 exact mJ 1 [] (hJ1 _ (oj e2))
 rcases Ar e1 with⟨hc13,e1⟩|⟨hc13,e1⟩
 exact mJ 1 [(2,fo hc13)] (hJ _ (oj e1))
 rcases Ar e1 with⟨hc14,e1⟩|⟨hc14,e1⟩
 exact mJ 1 [(2,fo hc13),(2,fl AD d.Facts),(2,fo hc14)] (hJ _ (oj e1))
 rcases Ar e1 with⟨hc15,e1⟩|⟨hc15,e1⟩
 exact mJ 1 [(2,fo hc13),(2,fl AD d.Facts),(2,fo hc14),(6,fo hc15)] (hJ _ (oj e1))
 obtain⟨k2,hk2,e1⟩:=Ae e1
 rcases Ar e1 with⟨hc16,e1⟩|⟨hc16,e1⟩
 exact mJ 1 [(2,fo hc13),(2,fl AD d.Facts),(2,fo hc14),(6,fo hc15),(3,fk (El _ _ _ _ hk2)),(2,fo hc16)] (hJ _ (oj e1))
 obtain⟨k3,hk3,e1⟩:=Ae e1
 exact mJ 1 [(2,fo hc13),(2,fl AD d.Facts),(2,fo hc14),(6,fo hc15),(3,fk (El _ _ _ _ hk2)),(2,fo hc16),(3,fk (El _ _ _ _ hk3))] (hJ _ (oj e1))
end Go.Proofs.YtkcfmlfkfagejaaGreatDoor
