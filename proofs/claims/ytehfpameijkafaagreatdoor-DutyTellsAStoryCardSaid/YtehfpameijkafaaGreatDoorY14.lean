/-
  The program's questions of order. The walks of duty: the stable sort. (Printed by lift.py.) Sorts of nothing. The walk of operations: whatever order the map is gone through, the table is one of the lists. (Most lines printed by lift.py.) The walks of names and made: the solver, whatever order the table of operations is in. The walks of statute: the operations: the program computes the plain functions. (Printed by lift.py.) The walks of statute: find: the program computes the plain functions. (Printed by lift.py.) The walks of statute: value: the program computes the plain functions. (Printed by lift.py.) The walks of find and value, for callers: in every order of the table. The walks of statute: Known, Check, Span: the program computes the plain functions. (Printed by lift.py.) The walks of duty: spans. (Printed by lift.py.) The walks of duty: at, breaks. (Printed by lift.py.) breaks' iterator. The walks of duty: Stretches, At, Bounds. (Printed by lift.py.) slices.Clone of spans. The walks of duty: Learned. (Printed by lift.py.) The walks of statute: operators and parser: the program computes the plain functions. (Printed by lift.py.) The lexers as plain functions; no program. (Printed by lift.py, but for the library.) Library functions that the lexer calls, in the form that lifted walks use. The walks of the lexer: the program computes the plain functions. (Printed by lift.py.) The lifted lexer reads as the plain one. What the lexer's functions answer, in the form that lifted walks use: Tokens, the reference's Tokens, Text. The walks of statute: Forms: the program computes the plain functions. (Printed by lift.py.) The walks of statute: Compile: the program computes the plain functions. (Printed by lift.py.) The walks of statute: the reference of statute: the program computes the plain functions. (Printed by lift.py.) The walks of duty: what the laws share. (Printed by lift.py.) The walks of duty: DutyTellsAStory. (Printed by lift.py.)
-/
import Derived.Test.YtehfpameijkafaaGreatDoorChecked
import Derived.RangeFuncBox
import Derived.Shelf.Abstract
import Derived.OwnWalkIn
import Derived.TacticsInMore
import Derived.LoopNIn
import Derived.LoopIn
import Derived.Lib.RowBridge
import Derived.Shelf.Strconv.AtoiAll
import Derived.Shelf.Strings.Fields
import Derived.Shelf.Strings.Prefix
import Derived.Test.YtehfpameijkafaaGreatDoorY4
import Derived.Test.YtehfpameijkafaaGreatDoorY6
import Derived.Test.YtehfpameijkafaaGreatDoorY8
import Derived.Test.YtehfpameijkafaaGreatDoorY9
import Derived.Test.YtehfpameijkafaaGreatDoorY11
import Derived.Test.YtehfpameijkafaaGreatDoorY13
set_option linter.unusedVariables false
set_option linter.unusedSimpArgs false
namespace Go.Proofs.YtehfpameijkafaaGreatDoor
open Go Go.Vl
theorem follows:Tryz.prog.follows .mixedOrders=true:=by kernel_rfl
end Go.Proofs.YtehfpameijkafaaGreatDoor
namespace Go.Proofs.YtehfpameijkafaaGreatDoor
open Go.RowKit Go.Q Go.Vl Go.Sp
set_option maxRecDepth 100000
set_option linter.unusedSimpArgs false
set_option maxHeartbeats 4000000
set_option linter.unusedVariables false
theorem G9 (cv1:(List Ad))(a_:Ae)(b:Ae)(r:Int)(h:CX cv1 a_ b=some r):Cz Tryz.prog 49 [.agg (kX6 a_),.agg (kX6 b),.vptr [hC cv1] 0] (iP r):=by
 unfold CX at h
 refine vP ⟨[0,1,2,3,4,5],[(1,[9999,0,0,1,2,3,4,5,6,7,8,9,10,11,12,13])]⟩ Tryz.func49 follows fun Q c=>?_
 obtain⟨x,d,h⟩:=Ac h
 obtain⟨x1,a,h⟩:=Ac h
 cases h
 exact rt 2 [(6,fi AZ d),(5,fi AZ a)] c
theorem CZ (n:Nat)(cv1:(List Ad))(n_:Nat)(data:(List Ae))(a_:Int)(b:Int)(cap_ m_:Nat)(r:(List Ae))(h:AA n cv1 n_ data a_ b=some r):I2 Tryz.prog 119 [.asl 0 0 n_ cap_,iP a_,iP b,.fno true 49 [.vptr [hC cv1] 0]] [Dn (data.map Aj.vals) m_] (.ret (.tup [])) [Dn (r.map Aj.vals) m_]:=by
 unfold AA at h
 refine vS ⟨[0,1,2,3,8,9,14,34],[(4,[9999,0,0,1,2,3,4,5,6,7,8,9,10,11,12,13,14,15,16]),(6,[9999,0,0,1,2,3,4,5,6,7,8,9,10,11,12,13,14,15,16,17])]⟩ Tryz.func119 follows fun Q w=>?_
 refine mE 1 [] h (fun data1=>⟨[],[Dn (data1.map Aj.vals) m_]⟩) ?_ fun y e hJ=>?_
 rintro data1 h
 cases h
 exact rt 0 [] w
 refine lF 1 [] (A:=(Int×(List Ae))) (fun n (i,data2)=>AD n b a_ n_ cv1 i data2) (fun (i,data2)=>⟨[(0,.asl 0 0 n_ cap_),(1,iP a_),(2,iP b),(3,.fno true 49 [.vptr [hC cv1] 0]),(8,iP i)],[Dn (data2.map Aj.vals) m_]⟩) ((À (a_+1)),data) e (fun _=>rfl) ?_
 rintro n ⟨i,data2⟩ e ih
 replace e:=(AD.eq_2 ..).symm.trans e
 refine cD 1 [] e (fun k e=>?_) fun k e=>?_
 refine mE 2 [] e (fun data3=>⟨[(0,.asl 0 0 n_ cap_),(1,iP a_),(2,iP b),(3,.fno true 49 [.vptr [hC cv1] 0]),(8,iP i)],[Dn (data3.map Aj.vals) m_]⟩) ?_ fun y1 e1 l=>?_
 rintro data3 e
 exact mJ 1 [] (ih (_,_) e)
 refine lF 1 [] (A:=(Int×(List Ae))) (fun n (j,data4)=>Aw n a_ n_ cv1 j data4) (fun (j,data4)=>⟨[(0,.asl 0 0 n_ cap_),(1,iP a_),(2,iP b),(3,.fno true 49 [.vptr [hC cv1] 0]),(8,iP i),(9,iP j)],[Dn (data4.map Aj.vals) m_]⟩) (i,data2) e1 (fun _=>rfl) ?_
 rintro n ⟨j,data4⟩ e1 m
 replace e1:=(Aw.eq_2 ..).symm.trans e1
 refine mE 0 [] e1 (fun v34=>⟨[(0,.asl 0 0 n_ cap_),(1,iP a_),(2,iP b),(3,.fno true 49 [.vptr [hC cv1] 0]),(8,iP i),(9,iP j),(34,bP v34)],[Dn (data4.map Aj.vals) m_]⟩) ?_ fun y2 e2 f=>?_
 rintro v34 e1
 refine cD 0 [] e1 (fun z e1=>?_) fun z e1=>?_
 obtain⟨_,v,e1⟩:=Ac e1
 obtain⟨x,B,e1⟩:=Ac e1
 obtain⟨_,g,e1⟩:=Ac e1
 obtain⟨x1,o,e1⟩:=Ac e1
 obtain⟨data5,a,e1⟩:=Ac e1
 obtain⟨data6,c,e1⟩:=Ac e1
 exact mJ 3 [(8,MY 0 3 n_ (DN v)),(0,U0 Aj m_ B),(2,MY 0 3 n_ (DN g)),(0,U0 Aj m_ o),(0,MY 0 3 n_ (DN g)),(0,fsE Aj m_ a),(0,MY 0 3 n_ (DN v)),(0,fsE Aj m_ c)] (m (_,_) e1)
 exact mJ 1 [] (l _ (oj e1))
 rcases Ao e2 with⟨d,e2⟩|⟨d,e2⟩
 obtain⟨_,p,e2⟩:=Ac e2
 obtain⟨x2,q,e2⟩:=Ac e2
 obtain⟨_,t,e2⟩:=Ac e2
 obtain⟨x3,u,e2⟩:=Ac e2
 obtain⟨s,hs,e2⟩:=Ac e2
 exact mJ 1 [(3,fo d),(3,MY 0 3 n_ (DN p)),(0,U0 Aj m_ q),(3,MY 0 3 n_ (DN t)),(0,U0 Aj m_ u),(0,fk (G9 _ _ _ _ hs))] (f _ (oj e2))
 exact mJ 1 [(3,fo d)] (f _ (oj e2))
 exact mJ 1 [] (hJ _ (oj e))
theorem Cw (n:Nat)(cv1:(List Ad))(n_:Nat)(data:(List Ae))(a_:Int)(b:Int)(n_1:Int)(cap_ m_:Nat)(r:(List Ae))(h:Bl n cv1 n_ data a_ b n_1=some r):I2 Tryz.prog 164 [.asl 0 0 n_ cap_,iP a_,iP b,iP n_1,.fno true 49 [.vptr [hC cv1] 0]] [Dn (data.map Aj.vals) m_] (.ret (.tup [])) [Dn (r.map Aj.vals) m_]:=by
 unfold Bl at h
 refine vS ⟨[0,1,2,3,4,10,13],[(3,[9999,0,0,1,2,3,4,5,6,7,8,9,10,11,12,13,14,15,16,17,18,19,20,21,22,23])]⟩ Tryz.func164 follows fun Q j=>?_
 refine mE 1 [] h (fun data1=>⟨[],[Dn (data1.map Aj.vals) m_]⟩) ?_ fun y e hJ=>?_
 rintro data1 h
 cases h
 exact rt 0 [] j
 refine lF 1 [] (A:=(Int×(List Ae))) (fun n (i,data2)=>AN n n_1 n_ b a_ i data2) (fun (i,data2)=>⟨[(0,.asl 0 0 n_ cap_),(1,iP a_),(2,iP b),(3,iP n_1),(10,iP i)],[Dn (data2.map Aj.vals) m_]⟩) (0,data) e (fun _=>rfl) ?_
 rintro n ⟨i,data2⟩ e ih
 replace e:=(AN.eq_2 ..).symm.trans e
 refine cD 1 [] e (fun k e=>?_) fun k e=>?_
 obtain⟨_,g,e⟩:=Ac e
 obtain⟨x,l,e⟩:=Ac e
 obtain⟨_,d,e⟩:=Ac e
 obtain⟨x1,f,e⟩:=Ac e
 obtain⟨data3,a,e⟩:=Ac e
 obtain⟨data4,c,e⟩:=Ac e
 exact mJ 3 [(12,MY 0 3 n_ (DN g)),(0,U0 Aj m_ l),(4,MY 0 3 n_ (DN d)),(0,U0 Aj m_ f),(0,MY 0 3 n_ (DN d)),(0,fsE Aj m_ a),(0,MY 0 3 n_ (DN g)),(0,fsE Aj m_ c)] (ih (_,_) e)
 exact mJ 1 [] (hJ _ (oj e))
theorem Hc (n:Nat)(cv1:(List Ad))(n_:Nat)(data:(List Ae))(a_:Int)(m_1:Int)(b:Int)(cap_ m_:Nat)(r:(List Ae))(h:Bv n cv1 n_ data a_ m_1 b=some r):I2 Tryz.prog 148 [.asl 0 0 n_ cap_,iP a_,iP m_1,iP b,.fno true 49 [.vptr [hC cv1] 0]] [Dn (data.map Aj.vals) m_] (.ret (.tup [])) [Dn (r.map Aj.vals) m_]:=by
 unfold Bv at h
 refine vS ⟨[0,1,2,3,4,10,11,20,23],[]⟩ Tryz.func148 follows fun Q g=>?_
 refine mE 2 [] h (fun (i,data1)=>⟨[(0,.asl 0 0 n_ cap_),(2,iP m_1),(4,.fno true 49 [.vptr [hC cv1] 0]),(10,iP i)],[Dn (data1.map Aj.vals) m_]⟩) ?_ fun y e hJ=>?_
 rintro⟨i,data1⟩ h
 obtain⟨data2,a,h⟩:=Ac h
 cases h
 exact rt 1 [(7,fs (Cw _ _ _ _ _ _ _ cap_ m_ _ a))] g
 refine lF 1 [] (A:=(Int×Int×(List Ae))) (fun n (i1,j,data3)=>A0 n cv1 n_ m_1 i1 j data3) (fun (i1,j,data3)=>⟨[(0,.asl 0 0 n_ cap_),(2,iP m_1),(4,.fno true 49 [.vptr [hC cv1] 0]),(10,iP i1),(11,iP j)],[Dn (data3.map Aj.vals) m_]⟩) ((À (m_1-a_)),(À (b-m_1)),data) e (fun _=>rfl) ?_
 rintro n ⟨i1,j,data3⟩ e ih
 replace e:=(A0.eq_2 ..).symm.trans e
 refine cD 1 [] e (fun f e=>?_) fun f e=>?_
 refine cD 2 [] e (fun k e=>?_) fun k e=>?_
 obtain⟨data4,c,e⟩:=Ac e
 exact mJ 2 [(7,fs (Cw _ _ _ _ _ _ _ cap_ m_ _ c))] (ih (_,_,_) e)
 obtain⟨data5,d,e⟩:=Ac e
 exact mJ 2 [(11,fs (Cw _ _ _ _ _ _ _ cap_ m_ _ d))] (ih (_,_,_) e)
 exact mJ 1 [] (hJ _ (oj e))
theorem FU (n0:Nat)
 (ih_slices_symMergeCmpFunc_120_49:∀ m,m<=n0->∀ (cv1:(List Ad)) (n_:Nat) (data:(List Ae)) (a_:Int) (m_1:Int) (b:Int) (cap_ m_:Nat) (r:(List Ae)),Am m cv1 n_ data a_ m_1 b=some r->I2 Tryz.prog 120 [.asl 0 0 n_ cap_,iP a_,iP m_1,iP b,.fno true 49 [.vptr [hC cv1] 0]] [Dn (data.map Aj.vals) m_] (.ret (.tup [])) [Dn (r.map Aj.vals) m_])
 (n:Nat) (hn:n<=n0) (cv1:(List Ad)) (n_:Nat) (data:(List Ae)) (a_:Int) (m_1:Int) (b:Int) (cap_ m_:Nat) (r:(List Ae)) (h:Am (n+1) cv1 n_ data a_ m_1 b=some r):I2 Tryz.prog 120 [.asl 0 0 n_ cap_,iP a_,iP m_1,iP b,.fno true 49 [.vptr [hC cv1] 0]] [Dn (data.map Aj.vals) m_] (.ret (.tup [])) [Dn (r.map Aj.vals) m_]:=by
 replace h:=(Am.eq_2 ..).symm.trans h
 refine vS ⟨[0,1,2,3,4,10,11,12,13,14,15,16,17,18,19,20,21,22,23,24,28,33,50,58,80,85,103,110,140,151,171,185,199,213],[(5,[9999,0,0,1,2,3,4,5,6,7,8,9,10]),(11,[9999,0,0,1,2,3,4,5,6,7,8,9,10,11,12,13,14,15,16,17]),(17,[9999,0,0,1,2,3,4,5,6,7,8,9,10,11]),(23,[9999,0,0,1,2,3,4,5,6,7,8,9,10,11,12,13,14,15,16,17]),(35,[9999,0,0,1,2,3,4,5,6,7,8,9,10,11,12,13])]⟩ Tryz.func120 follows fun Q P=>?_
 refine cD 1 [] h (fun v h=>?_) fun v h=>?_
 refine mE 2 [] h (fun i=>⟨[(0,.asl 0 0 n_ cap_),(1,iP a_),(2,iP m_1),(3,iP b),(4,.fno true 49 [.vptr [hC cv1] 0]),(10,iP i)],[Dn (data.map Aj.vals) m_]⟩) ?_ fun y e hJ=>?_
 rintro i h
 refine mE 1 [] h (fun data1=>⟨[(0,.asl 0 0 n_ cap_),(1,iP a_),(2,iP m_1),(3,iP b),(4,.fno true 49 [.vptr [hC cv1] 0])],[Dn (data1.map Aj.vals) m_]⟩) ?_ fun y1 e1 R=>?_
 rintro data1 h
 cases h
 exact rt 0 [] P
 refine lR 1 [] (A:=(Int×(List Ae))) (fun n (k,data2)=>AV n i n_ k data2) (fun (k,data2)=>⟨[(0,.asl 0 0 n_ cap_),(1,iP a_),(2,iP m_1),(3,iP b),(4,.fno true 49 [.vptr [hC cv1] 0]),(10,iP i),(13,iP k)],[Dn (data2.map Aj.vals) m_]⟩) (a_,data) hn e1 (fun _=>rfl) ?_
 rintro n ⟨k,data2⟩ hn e1 ih
 replace e1:=(AV.eq_2 ..).symm.trans e1
 refine cD 1 [] e1 (fun hc e1=>?_) fun hc e1=>?_
 obtain⟨_,hu,e1⟩:=Ac e1
 obtain⟨x,hx,e1⟩:=Ac e1
 obtain⟨_,w,e1⟩:=Ac e1
 obtain⟨x1,S,e1⟩:=Ac e1
 obtain⟨data3,g,e1⟩:=Ac e1
 obtain⟨data4,l,e1⟩:=Ac e1
 exact mJ 3 [(8,MY 0 3 n_ (DN hu)),(0,U0 Aj m_ hx),(2,MY 0 3 n_ (DN w)),(0,U0 Aj m_ S),(0,MY 0 3 n_ (DN w)),(0,fsE Aj m_ g),(0,MY 0 3 n_ (DN hu)),(0,fsE Aj m_ l)] (ih (_,_) e1)
 exact mJ 1 [] (R _ (oj e1))
 refine lR 1 [] (A:=(Int×Int)) (fun n (i1,j)=>A2 n n_ data a_ cv1 i1 j) (fun (i1,j)=>⟨[(0,.asl 0 0 n_ cap_),(1,iP a_),(2,iP m_1),(3,iP b),(4,.fno true 49 [.vptr [hC cv1] 0]),(10,iP i1),(11,iP j)],[Dn (data.map Aj.vals) m_]⟩) (m_1,b) hn e (fun _=>rfl) ?_
 rintro n ⟨i1,j⟩ hn e z
 replace e:=(A2.eq_2 ..).symm.trans e
 refine cD 1 [] e (fun T e=>?_) fun T e=>?_
 obtain⟨_,U,e⟩:=Ac e
 obtain⟨x2,V,e⟩:=Ac e
 obtain⟨_,W,e⟩:=Ac e
 obtain⟨x3,X,e⟩:=Ac e
 obtain⟨s,hs,e⟩:=Ac e
 refine cD 3 [(10,MY 0 3 n_ (DN U)),(0,U0 Aj m_ V),(2,MY 0 3 n_ (DN W)),(0,U0 Aj m_ X),(0,fk (G9 _ _ _ _ hs))] e (fun Y e=>?_) fun Y e=>?_
 exact mJ 1 [] (z (_,_) e)
 exact mJ 1 [] (z (_,_) e)
 exact mJ 1 [] (hJ _ (oj e))
 refine cD 1 [] h (fun B h=>?_) fun B h=>?_
 refine mE 2 [] h (fun i2=>⟨[(0,.asl 0 0 n_ cap_),(1,iP a_),(2,iP m_1),(3,iP b),(4,.fno true 49 [.vptr [hC cv1] 0]),(14,iP i2)],[Dn (data.map Aj.vals) m_]⟩) ?_ fun y2 e2 Z=>?_
 rintro i2 h
 refine mE 1 [] h (fun data5=>⟨[(0,.asl 0 0 n_ cap_),(1,iP a_),(2,iP m_1),(3,iP b),(4,.fno true 49 [.vptr [hC cv1] 0])],[Dn (data5.map Aj.vals) m_]⟩) ?_ fun y3 e3 hJ3=>?_
 rintro data5 h
 cases h
 exact rt 0 [] P
 refine lR 1 [] (A:=(Int×(List Ae))) (fun n (k1,data6)=>AU n i2 n_ k1 data6) (fun (k1,data6)=>⟨[(0,.asl 0 0 n_ cap_),(1,iP a_),(2,iP m_1),(3,iP b),(4,.fno true 49 [.vptr [hC cv1] 0]),(14,iP i2),(17,iP k1)],[Dn (data6.map Aj.vals) m_]⟩) (m_1,data) hn e3 (fun _=>rfl) ?_
 rintro n ⟨k1,data6⟩ hn e3 ih2
 replace e3:=(AU.eq_2 ..).symm.trans e3
 refine cD 1 [] e3 (fun hc3 e3=>?_) fun hc3 e3=>?_
 obtain⟨_,C,e3⟩:=Ac e3
 obtain⟨x4,hx4,e3⟩:=Ac e3
 obtain⟨_,D,e3⟩:=Ac e3
 obtain⟨x5,hx5,e3⟩:=Ac e3
 obtain⟨data7,o,e3⟩:=Ac e3
 obtain⟨data8,p,e3⟩:=Ac e3
 exact mJ 3 [(8,MY 0 3 n_ (DN C)),(0,U0 Aj m_ hx4),(2,MY 0 3 n_ (DN D)),(0,U0 Aj m_ hx5),(0,MY 0 3 n_ (DN D)),(0,fsE Aj m_ o),(0,MY 0 3 n_ (DN C)),(0,fsE Aj m_ p)] (ih2 (_,_) e3)
 exact mJ 1 [] (hJ3 _ (oj e3))
 refine lR 1 [] (A:=(Int×Int)) (fun n (i3,j1)=>A1 n n_ m_1 data cv1 i3 j1) (fun (i3,j1)=>⟨[(0,.asl 0 0 n_ cap_),(1,iP a_),(2,iP m_1),(3,iP b),(4,.fno true 49 [.vptr [hC cv1] 0]),(14,iP i3),(15,iP j1)],[Dn (data.map Aj.vals) m_]⟩) (a_,m_1) hn e2 (fun _=>rfl) ?_
 rintro n ⟨i3,j1⟩ hn e2 E
 replace e2:=(A1.eq_2 ..).symm.trans e2
 refine cD 1 [] e2 (fun hc5 e2=>?_) fun hc5 e2=>?_
 obtain⟨_,hu6,e2⟩:=Ac e2
 obtain⟨x6,hx6,e2⟩:=Ac e2
 obtain⟨_,hu7,e2⟩:=Ac e2
 obtain⟨x7,hx7,e2⟩:=Ac e2
 obtain⟨s1,hs1,e2⟩:=Ac e2
 refine cD 3 [(10,MY 0 3 n_ (DN hu6)),(0,U0 Aj m_ hx6),(2,MY 0 3 n_ (DN hu7)),(0,U0 Aj m_ hx7),(0,fk (G9 _ _ _ _ hs1))] e2 (fun hc4 e2=>?_) fun hc4 e2=>?_
 exact mJ 1 [] (E (_,_) e2)
 exact mJ 1 [] (E (_,_) e2)
 exact mJ 1 [] (Z _ (oj e2))
 refine mE 4 [] h (fun (start,r_)=>⟨[(0,.asl 0 0 n_ cap_),(1,iP a_),(2,iP m_1),(3,iP b),(4,.fno true 49 [.vptr [hC cv1] 0]),(18,iP (À ((IntKind.u64.wrap (À (a_+b))).fdiv (2 ^ min (1:Int).toNat IntKind.u64.bits)))),(19,iP (À ((À ((IntKind.u64.wrap (À (a_+b))).fdiv (2 ^ min (1:Int).toNat IntKind.u64.bits)))+m_1))),(20,iP start),(21,iP r_)],[Dn (data.map Aj.vals) m_]⟩) ?_ fun y4 e4 F=>?_
 rintro⟨start,r_⟩ h
 refine mE 1 [] h (fun start1=>⟨[(0,.asl 0 0 n_ cap_),(1,iP a_),(2,iP m_1),(3,iP b),(4,.fno true 49 [.vptr [hC cv1] 0]),(18,iP (À ((IntKind.u64.wrap (À (a_+b))).fdiv (2 ^ min (1:Int).toNat IntKind.u64.bits)))),(19,iP (À ((À ((IntKind.u64.wrap (À (a_+b))).fdiv (2 ^ min (1:Int).toNat IntKind.u64.bits)))+m_1))),(20,iP start1)],[Dn (data.map Aj.vals) m_]⟩) ?_ fun y5 e5 hJ5=>?_
 rintro start1 h
 refine mE 1 [] h (fun v185=>⟨[(0,.asl 0 0 n_ cap_),(1,iP a_),(2,iP m_1),(3,iP b),(4,.fno true 49 [.vptr [hC cv1] 0]),(18,iP (À ((IntKind.u64.wrap (À (a_+b))).fdiv (2 ^ min (1:Int).toNat IntKind.u64.bits)))),(20,iP start1),(24,iP (À ((À ((À ((IntKind.u64.wrap (À (a_+b))).fdiv (2 ^ min (1:Int).toNat IntKind.u64.bits)))+m_1))-start1))),(185,bP v185)],[Dn (data.map Aj.vals) m_]⟩) ?_ fun y6 e6 G=>?_
 rintro v185 h
 refine mE 0 [] h (fun data9=>⟨[(0,.asl 0 0 n_ cap_),(1,iP a_),(3,iP b),(4,.fno true 49 [.vptr [hC cv1] 0]),(18,iP (À ((IntKind.u64.wrap (À (a_+b))).fdiv (2 ^ min (1:Int).toNat IntKind.u64.bits)))),(20,iP start1),(24,iP (À ((À ((À ((IntKind.u64.wrap (À (a_+b))).fdiv (2 ^ min (1:Int).toNat IntKind.u64.bits)))+m_1))-start1)))],[Dn (data9.map Aj.vals) m_]⟩) ?_ fun y7 e7 H=>?_
 rintro data9 h
 refine mE 0 [] h (fun v199=>⟨[(0,.asl 0 0 n_ cap_),(1,iP a_),(3,iP b),(4,.fno true 49 [.vptr [hC cv1] 0]),(18,iP (À ((IntKind.u64.wrap (À (a_+b))).fdiv (2 ^ min (1:Int).toNat IntKind.u64.bits)))),(20,iP start1),(24,iP (À ((À ((À ((IntKind.u64.wrap (À (a_+b))).fdiv (2 ^ min (1:Int).toNat IntKind.u64.bits)))+m_1))-start1))),(199,bP v199)],[Dn (data9.map Aj.vals) m_]⟩) ?_ fun y8 e8 I=>?_
 rintro v199 h
 refine mE 0 [] h (fun data10=>⟨[(0,.asl 0 0 n_ cap_),(3,iP b),(4,.fno true 49 [.vptr [hC cv1] 0]),(18,iP (À ((IntKind.u64.wrap (À (a_+b))).fdiv (2 ^ min (1:Int).toNat IntKind.u64.bits)))),(24,iP (À ((À ((À ((IntKind.u64.wrap (À (a_+b))).fdiv (2 ^ min (1:Int).toNat IntKind.u64.bits)))+m_1))-start1)))],[Dn (data10.map Aj.vals) m_]⟩) ?_ fun y9 e9 J=>?_
 rintro data10 h
 refine mE 0 [] h (fun v213=>⟨[(0,.asl 0 0 n_ cap_),(3,iP b),(4,.fno true 49 [.vptr [hC cv1] 0]),(18,iP (À ((IntKind.u64.wrap (À (a_+b))).fdiv (2 ^ min (1:Int).toNat IntKind.u64.bits)))),(24,iP (À ((À ((À ((IntKind.u64.wrap (À (a_+b))).fdiv (2 ^ min (1:Int).toNat IntKind.u64.bits)))+m_1))-start1))),(213,bP v213)],[Dn (data10.map Aj.vals) m_]⟩) ?_ fun y10 e10 q=>?_
 rintro v213 h
 refine cD 0 [] h (fun hc6 h=>?_) fun hc6 h=>?_
 obtain⟨data11,a,h⟩:=Ac h
 cases h
 exact rt 1 [(5,fs (ih_slices_symMergeCmpFunc_120_49 _ hn _ _ _ _ _ _ cap_ m_ _ a))] P
 cases h
 exact rt 0 [] P
 rcases Ao e10 with⟨t,e10⟩|⟨t,e10⟩
 exact mJ 1 [(3,fo t)] (q _ (oj e10))
 exact mJ 1 [(3,fo t)] (q _ (oj e10))
 refine cD 0 [] e9 (fun hc8 e9=>?_) fun hc8 e9=>?_
 obtain⟨data12,c,e9⟩:=Ac e9
 exact mJ 1 [(5,fs (ih_slices_symMergeCmpFunc_120_49 _ hn _ _ _ _ _ _ cap_ m_ _ c))] (J _ (oj e9))
 exact mJ 0 [] (J _ (oj e9))
 rcases Ao e8 with⟨u,e8⟩|⟨u,e8⟩
 exact mJ 1 [(3,fo u)] (I _ (oj e8))
 exact mJ 1 [(3,fo u)] (I _ (oj e8))
 refine cD 0 [] e7 (fun K e7=>?_) fun K e7=>?_
 obtain⟨data13,d,e7⟩:=Ac e7
 exact mJ 1 [(5,fs (Hc _ _ _ _ _ _ _ cap_ m_ _ d))] (H _ (oj e7))
 exact mJ 0 [] (H _ (oj e7))
 rcases Ao e6 with⟨f,e6⟩|⟨f,e6⟩
 exact mJ 1 [(3,fo f)] (G _ (oj e6))
 exact mJ 1 [(3,fo f)] (G _ (oj e6))
 refine lR 1 [] (A:=(Int×Int)) (fun n (start2,r_1)=>Av n n_ a_ b m_1 data cv1 start2 r_1) (fun (start2,r_1)=>⟨[(0,.asl 0 0 n_ cap_),(1,iP a_),(2,iP m_1),(3,iP b),(4,.fno true 49 [.vptr [hC cv1] 0]),(18,iP (À ((IntKind.u64.wrap (À (a_+b))).fdiv (2 ^ min (1:Int).toNat IntKind.u64.bits)))),(19,iP (À ((À ((IntKind.u64.wrap (À (a_+b))).fdiv (2 ^ min (1:Int).toNat IntKind.u64.bits)))+m_1))),(20,iP start2),(21,iP r_1),(22,iP (À ((À ((À ((IntKind.u64.wrap (À (a_+b))).fdiv (2 ^ min (1:Int).toNat IntKind.u64.bits)))+m_1))-1)))],[Dn (data.map Aj.vals) m_]⟩) (start,r_) hn e5 (fun _=>rfl) ?_
 rintro n ⟨start2,r_1⟩ hn e5 L
 replace e5:=(Av.eq_2 ..).symm.trans e5
 refine cD 1 [] e5 (fun M e5=>?_) fun M e5=>?_
 obtain⟨_,hu8,e5⟩:=Ac e5
 obtain⟨x8,hx8,e5⟩:=Ac e5
 obtain⟨_,hu9,e5⟩:=Ac e5
 obtain⟨x9,hx9,e5⟩:=Ac e5
 obtain⟨s2,hs2,e5⟩:=Ac e5
 refine cD 3 [(12,MY 0 3 n_ (DN hu8)),(0,U0 Aj m_ hx8),(2,MY 0 3 n_ (DN hu9)),(0,U0 Aj m_ hx9),(0,fk (G9 _ _ _ _ hs2))] e5 (fun N e5=>?_) fun N e5=>?_
 exact mJ 1 [] (L (_,_) e5)
 exact mJ 1 [] (L (_,_) e5)
 exact mJ 1 [] (hJ5 _ (oj e5))
 refine cD 0 [] e4 (fun O e4=>?_) fun O e4=>?_
 exact mJ 2 [] (F _ (oj e4))
 exact mJ 2 [] (F _ (oj e4))
theorem Ds:∀ n:Nat,(∀ m,m<=n->∀ (cv1:(List Ad)) (n_:Nat) (data:(List Ae)) (a_:Int) (m_1:Int) (b:Int) (cap_ m_:Nat) (r:(List Ae)),Am m cv1 n_ data a_ m_1 b=some r->I2 Tryz.prog 120 [.asl 0 0 n_ cap_,iP a_,iP m_1,iP b,.fno true 49 [.vptr [hC cv1] 0]] [Dn (data.map Aj.vals) m_] (.ret (.tup [])) [Dn (r.map Aj.vals) m_])
 |0=>(fun m hm cv1 n_ data a_ m_1 b cap_ m_ r h=>by
  obtain rfl:m=0:=by omega
  exact absurd h (by simp [Am]))
 |n+1=>by
  have ih:=Ds n
  exact fun m hm cv1 n_ data a_ m_1 b cap_ m_ r h=>by
   cases m with
   |zero=>exact absurd h (by simp [Am])
   |succ m=>exact FU n (ih) m (by omega) cv1 n_ data a_ m_1 b cap_ m_ _ h
theorem DR (n:Nat)(cv1:(List Ad))(n_:Nat)(data:(List Ae))(a_:Int)(m_1:Int)(b:Int)(cap_ m_:Nat)(r:(List Ae))(h:Am n cv1 n_ data a_ m_1 b=some r):I2 Tryz.prog 120 [.asl 0 0 n_ cap_,iP a_,iP m_1,iP b,.fno true 49 [.vptr [hC cv1] 0]] [Dn (data.map Aj.vals) m_] (.ret (.tup [])) [Dn (r.map Aj.vals) m_] :=
 (Ds n) n (Ü _) cv1 n_ data a_ m_1 b cap_ m_ r h
theorem Hq (n:Nat)(cv1:(List Ad))(n_:Nat)(data:(List Ae))(n_1:Int)(cap_ m_:Nat)(r:(List Ae))(h:B3 n cv1 n_ data n_1=some r):I2 Tryz.prog 73 [.asl 0 0 n_ cap_,iP n_1,.fno true 49 [.vptr [hC cv1] 0]] [Dn (data.map Aj.vals) m_] (.ret (.tup [])) [Dn (r.map Aj.vals) m_]:=by
 unfold B3 at h
 refine vS ⟨[0,1,2,6,7,8,9,13,30,35,54],[]⟩ Tryz.func73 follows fun Q p=>?_
 refine mE 2 [] h (fun (a_,b,data1)=>⟨[(0,.asl 0 0 n_ cap_),(1,iP n_1),(2,.fno true 49 [.vptr [hC cv1] 0]),(6,iP 20),(7,iP a_),(8,iP b)],[Dn (data1.map Aj.vals) m_]⟩) ?_ fun y e hJ=>?_
 rintro⟨a_,b,data1⟩ h
 obtain⟨data2,c,h⟩:=Ac h
 refine mE 1 [(4,fs (CZ _ _ _ _ _ _ cap_ m_ _ c))] h (fun data3=>⟨[],[Dn (data3.map Aj.vals) m_]⟩) ?_ fun y1 e1 g=>?_
 rintro data3 h
 cases h
 exact rt 0 [] p
 refine lF 1 [] (A:=(Int×Int×Int×(List Ae))) (fun n (blockSize,a_1,b1,data4)=>A3 n n_1 cv1 n_ blockSize a_1 b1 data4) (fun (blockSize,a_1,b1,data4)=>⟨[(0,.asl 0 0 n_ cap_),(1,iP n_1),(2,.fno true 49 [.vptr [hC cv1] 0]),(6,iP blockSize),(7,iP a_1),(8,iP b1)],[Dn (data4.map Aj.vals) m_]⟩) (20,a_,b,data2) e1 (fun _=>rfl) ?_
 rintro n ⟨blockSize,a_1,b1,data4⟩ e1 ih
 replace e1:=(A3.eq_2 ..).symm.trans e1
 refine cD 1 [] e1 (fun i e1=>?_) fun i e1=>?_
 refine mE 2 [] e1 (fun (a_2,b2,data5)=>⟨[(0,.asl 0 0 n_ cap_),(1,iP n_1),(2,.fno true 49 [.vptr [hC cv1] 0]),(6,iP blockSize),(7,iP a_2),(8,iP b2)],[Dn (data5.map Aj.vals) m_]⟩) ?_ fun y2 e2 j=>?_
 rintro⟨a_2,b2,data5⟩ e1
 refine cD 2 [] e1 (fun q e1=>?_) fun q e1=>?_
 obtain⟨data6,d,e1⟩:=Ac e1
 exact mJ 2 [(5,fs (DR _ _ _ _ _ _ _ cap_ m_ _ d))] (ih (_,_,_,_) e1)
 exact mJ 1 [] (ih (_,_,_,_) e1)
 refine lF 1 [] (A:=(Int×Int×(List Ae))) (fun n (a_3,b3,data7)=>A9 n n_1 cv1 n_ blockSize a_3 b3 data7) (fun (a_3,b3,data7)=>⟨[(0,.asl 0 0 n_ cap_),(1,iP n_1),(2,.fno true 49 [.vptr [hC cv1] 0]),(6,iP blockSize),(7,iP a_3),(8,iP b3)],[Dn (data7.map Aj.vals) m_]⟩) (0,(À (2*blockSize)),data4) e2 (fun _=>rfl) ?_
 rintro n ⟨a_3,b3,data7⟩ e2 k
 replace e2:=(A9.eq_2 ..).symm.trans e2
 refine cD 1 [] e2 (fun l e2=>?_) fun l e2=>?_
 obtain⟨data8,f,e2⟩:=Ac e2
 exact mJ 4 [(7,fs (DR _ _ _ _ _ _ _ cap_ m_ _ f))] (k (_,_,_) e2)
 exact mJ 1 [] (j _ (oj e2))
 exact mJ 1 [] (g _ (oj e1))
 refine lF 1 [] (A:=(Int×Int×(List Ae))) (fun n (a_4,b4,data9)=>A8 n n_1 cv1 n_ a_4 b4 data9) (fun (a_4,b4,data9)=>⟨[(0,.asl 0 0 n_ cap_),(1,iP n_1),(2,.fno true 49 [.vptr [hC cv1] 0]),(6,iP 20),(7,iP a_4),(8,iP b4)],[Dn (data9.map Aj.vals) m_]⟩) (0,20,data) e (fun _=>rfl) ?_
 rintro n ⟨a_4,b4,data9⟩ e m
 replace e:=(A8.eq_2 ..).symm.trans e
 refine cD 1 [] e (fun o e=>?_) fun o e=>?_
 obtain⟨data10,a,e⟩:=Ac e
 exact mJ 4 [(4,fs (CZ _ _ _ _ _ _ cap_ m_ _ a))] (m (_,_,_) e)
 exact mJ 1 [] (hJ _ (oj e))
theorem Hd (n:Nat)(cv1:(List Ad))(n_:Nat)(x:(List Ae))(cap_ m_:Nat)(r:(List Ae))(h:BL n cv1 n_ x=some r):I2 Tryz.prog 48 [.asl 0 0 n_ cap_,.fno true 49 [.vptr [hC cv1] 0]] [Dn (x.map Aj.vals) m_] (.ret (.tup [])) [Dn (r.map Aj.vals) m_]:=by
 unfold BL at h
 refine vS ⟨[0,1],[]⟩ Tryz.func48 follows fun Q b=>?_
 obtain⟨x1,a,h⟩:=Ac h
 cases h
 exact rt 1 [(4,fs (Hq _ _ _ _ _ cap_ m_ _ a))] b
end Go.Proofs.YtehfpameijkafaaGreatDoor
namespace Go.Proofs.YtehfpameijkafaaGreatDoor
open Go Go.RowKit Go.Proofs Go.Vl Go.Sp
def Vi:Nat->Int->Option Unit
 |0,_=>none
 |n+1,i=>bif decide (i<0) then Vi n i else some ()
theorem Ad6 (cl:(List Ad)):Cz Tryz.prog 119 [.sl [] .shared,iP 0,iP 0,.fno true 49 [.vptr [hP cl BJ] 0]] (.tup []):=by
 refine vP ⟨[0,1,2,3,8,9,14,34],[(4,[9999,0,0,1,2,3,4,5,6,7,8,9,10,11,12,13,14,15,16]),(6,[9999,0,0,1,2,3,4,5,6,7,8,9,10,11,12,13,14,15,16,17])]⟩ Tryz.func119 follows fun Q c=>?_
 have h:(Vi 1 1).bind (fun _:Unit=>some ())=some ():=rfl
 refine mE 1 [] h (fun _=>⟨[],[]⟩) ?_ fun y e hJ=>?_
 rintro⟨⟩ _
 exact rt 0 [] c
 refine lF 1 [] (A:=Int) (fun n i=>bif decide (i=1) then Vi n i else none) (fun i=>⟨[(0,.sl [] .shared),(1,iP 0),(2,iP 0),(3,.fno true 49 [.vptr [hP cl BJ] 0]),(8,iP i)],[]⟩) 1 (m:=1) e (fun _=>by simp [Vi]) ?_
 rintro n i e ih
 rcases Ao e with⟨b,e⟩|⟨b,e⟩
 have d:i=1:=by simpa using b
 refine cD 1 [] e (fun a e=>?_) fun a e=>?_
 exact absurd (Č a) (by omega)
 exact mJ 1 [] (hJ _ (oj e))
 cases e
def ZU:Nat->Int->Option Unit
 |0,_=>none
 |n+1,i=>bif decide (i<=0) then ZU n i else some ()
theorem Aff (cl:(List Ad)):Cz Tryz.prog 73 [.sl [] .shared,iP 0,.fno true 49 [.vptr [hP cl BJ] 0]] (.tup []):=by
 refine vP ⟨[0,1,2,6,7,8,9,13,30,35,54],[]⟩ Tryz.func73 follows fun Q c=>?_
 have h:(ZU 1 20).bind (fun _:Unit=>(Vi 1 20).bind (fun _:Unit=>some ()))=some ():=rfl
 refine mE 2 [] h (fun _=>⟨[(0,.sl [] .shared),(1,iP 0),(2,.fno true 49 [.vptr [hP cl BJ] 0]),(6,iP 20),(7,iP 0),(8,iP 20)],[]⟩) ?_ fun y e hJ=>?_
 rintro⟨⟩ h
 refine mE 1 [(4,fk (Ad6 cl))] h (fun _=>⟨[],[]⟩) ?_ fun y e hJ=>?_
 rintro⟨⟩ _
 exact rt 0 [] c
 refine lF 1 [] (A:=Int) (fun n i=>bif decide (i=20) then Vi n i else none) (fun i=>⟨[(0,.sl [] .shared),(1,iP 0),(2,.fno true 49 [.vptr [hP cl BJ] 0]),(6,iP i),(7,iP 0),(8,iP 20)],[]⟩) 20 (m:=1) e (fun _=>by simp [Vi]) ?_
 rintro n i e ih
 rcases Ao e with⟨b,e⟩|⟨b,e⟩
 have d:i=20:=by simpa using b
 refine cD 1 [] e (fun a e=>?_) fun a e=>?_
 exact absurd (Č a) (by omega)
 exact mJ 1 [] (hJ _ (oj e))
 cases e
 refine lF 1 [] (A:=Int) (fun n i=>bif decide (i=20) then ZU n i else none) (fun i=>⟨[(0,.sl [] .shared),(1,iP 0),(2,.fno true 49 [.vptr [hP cl BJ] 0]),(6,iP 20),(7,iP 0),(8,iP i)],[]⟩) 20 (m:=1) e (fun _=>by simp [ZU]) ?_
 rintro n i e ih
 rcases Ao e with⟨b,e⟩|⟨b,e⟩
 obtain rfl:i=20:=by simpa using b
 refine cD 1 [] e (fun a e=>?_) fun a e=>?_
 exact absurd (Č a) (by omega)
 exact mJ 1 [] (hJ _ (oj e))
 cases e
theorem Ab9 (cl:(List Ad)):Cz Tryz.prog 48 [.sl [] .shared,.fno true 49 [.vptr [hP cl BJ] 0]] (.tup []):=by
 refine vP ⟨[0,1],[]⟩ Tryz.func48 follows fun Q a=>?_
 exact rt 1 [(4,fk (Aff cl))] a
theorem ZG:Cz Tryz.prog 52 [.sl [] .shared] (.tup []):=by
 intro σ w G vs hs b j m k
 have a:vs.size=1:=b
 have e1:vs = #[vs.getD 0 Go.undef]:=by
  apply Array.ext
  . simpa using a
  . intro i l g
    have:i=0:=by simp at g;exact g
    subst this
    simp [Array.getD,l]
 have c:V w G.U G.φ (.sl [] .shared) (vs.getD 0 Go.undef):=j 0 (by simp)
 have d:∃ p cap,vs.getD 0 Go.undef=.slice p 0 cap:=by
  revert c
  generalize vs.getD 0 Go.undef=z
  intro c
  cases c<;>exact⟨_,_,rfl⟩
 obtain⟨p,cap,d⟩:=d
 rw [e1,d]
 refine (Tryz.slices_Sort_int_none p cap w).mono ?_
 rintro e w' ⟨rfl,rfl⟩
 exact⟨_,_,G,⟨rfl,rfl⟩,⟨_,rfl,.tup _ _ _ rfl (fun i f=>by simp at f),fun i xs f=>by simp at f⟩,hs,Ext.refl _ _⟩
end Go.Proofs.YtehfpameijkafaaGreatDoor
namespace Go.Proofs.YtehfpameijkafaaGreatDoor
open Go.RowKit Go.Q Go.Vl Go.Sp
set_option maxRecDepth 100000
set_option linter.unusedSimpArgs false
set_option maxHeartbeats 4000000
set_option linter.unusedVariables false
theorem Aaj:Cc [(7,[9996,8])] Tryz.f60.ntmps (Tryz.f60.body.getD .skip)=true:=by kernel_rfl
theorem Ad5 (Q:Cb->List (List PV)->Prop)(hQ:∀ os:List Nat,Ord os->∀ l,l=Fq++os.flatMap Gt->∀ r,Yr 20 l=some r->∀ y,shareP y=hO r->Q (.ret y) []):VC Tryz.prog 60 [] [] Q:=by
 obtain⟨n,j⟩:∃ n,n=20:=⟨20,rfl⟩
 have h:Acl n=some Fq:=by rw [j];exact Aai
 unfold Acl at h
 refine VC.intro ⟨[0,1,2,3,4,5,7,9,35,36,37,38,52,54,58,59,60,61,73,84,85,86,87,103],[(7,[9996,8])]⟩ Tryz.func60 rfl follows Aaj (by rw [Tryz.ntmps60];exact Ø rfl) ?_
 refine Qp ?_
 repeat first|apply z1|apply z2|apply z3|apply z4
 refine wr [0] 0 (DP 1 []) ⟨[(0,.sl [] .own)],[]⟩ True.intro (by kernel_rfl) ?_
 repeat first|apply z1|apply z2|apply z3|apply z4
 obtain⟨l,H,h⟩:=Ac h
 have fb:([[iP 1]]:List (List PV))=l.map BG:=by rw [<- Af H];simp only [Þ,ï,Bs]<;>rfl
 obtain⟨l1,o,h⟩:=Ac h
 have fb1:([[iP 1],[iP 1]]:List (List PV))=l1.map BG:=by rw [<- Af o];simp only [Þ,ï,Bs]<;>rfl
 obtain⟨l2,S,h⟩:=Ac h
 have fb2:([[iP 1],[iP 1]]:List (List PV))=l2.map BG:=by rw [<- Af S];simp only [Þ,ï,Bs]<;>rfl
 obtain⟨l3,T,h⟩:=Ac h
 have fb3:([[iP 2],[iP 1]]:List (List PV))=l3.map BG:=by rw [<- Af T];simp only [Þ,ï,Bs]<;>rfl
 obtain⟨l4,p,h⟩:=Ac h
 have fb4:([[iP 1],[iP 1]]:List (List PV))=l4.map BG:=by rw [<- Af p];simp only [Þ,ï,Bs]<;>rfl
 obtain⟨l5,q,h⟩:=Ac h
 have fb5:([[iP 2],[iP 1]]:List (List PV))=l5.map BG:=by rw [<- Af q];simp only [Þ,ï,Bs]<;>rfl
 obtain⟨l6,s,h⟩:=Ac h
 have fb6:([[iP 2],[iP 2]]:List (List PV))=l6.map BG:=by rw [<- Af s];simp only [Þ,ï,Bs]<;>rfl
 obtain⟨l7,B,h⟩:=Ac h
 have fb7:([[iP 3]]:List (List PV))=l7.map BG:=by rw [<- Af B];simp only [Þ,ï,Bs]<;>rfl
 obtain⟨l8,C,h⟩:=Ac h
 have fb8:([[iP 3],[iP 3]]:List (List PV))=l8.map BG:=by rw [<- Af C];simp only [Þ,ï,Bs]<;>rfl
 obtain⟨l9,D,h⟩:=Ac h
 have fb9:([[iP 3],[iP 3]]:List (List PV))=l9.map BG:=by rw [<- Af D];simp only [Þ,ï,Bs]<;>rfl
 obtain⟨l10,t,h⟩:=Ac h
 have fb10:([[iP 1]]:List (List PV))=l10.map BG:=by rw [<- Af t];simp only [Þ,ï,Bs]<;>rfl
 obtain⟨l11,I,h⟩:=Ac h
 have fb11:([[iP 1]]:List (List PV))=l11.map BG:=by rw [<- Af I];simp only [Þ,ï,Bs]<;>rfl
 obtain⟨l12,J,h⟩:=Ac h
 have fb12:([[iP 6,tP ⟨#[]⟩,hI l,iP 1,.fno true 82 []],[iP 7,tP ⟨#[]⟩,hI l1,iP 1,.fno true 83 []],[iP 10,tP ⟨#[]⟩,hI l2,iP 1,.fno true 85 []],[iP 10,tP ⟨#[]⟩,hI l3,iP 2,.fno true 87 []],[iP 11,tP ⟨#[]⟩,hI l4,iP 1,.fno true 89 []],[iP 11,tP ⟨#[]⟩,hI l5,iP 2,.fno true 90 []],[iP 11,tP ⟨#[]⟩,hI l6,iP 1,.fno true 91 []],[iP 5,tP ⟨#[]⟩,hI l7,iP 3,.fno true 92 []],[iP 18,tP ⟨#[]⟩,hI l8,iP 3,.fno true 93 []],[iP 19,tP ⟨#[]⟩,hI l9,iP 3,.fno true 94 []],[iP 4,tP ⟨#[100,97,121]⟩,hI l10,iP 2,.fno true 95 []],[iP 4,tP ⟨#[112,101,114,115,111,110]⟩,hI l11,iP 4,.fno true 97 []]]:List (List PV))=l12.map AO:=by rw [<- Af J];simp only [Þ,ï,BK]<;>rfl
 refine wr [0,1] 0 (.val (oI l)::(DP 1 (.val (oI l1)::(DP 1 (.val (oI l2)::(DP 1 (.val (oI l3)::(DP 1 (.val (oI l4)::(DP 1 (.val (oI l5)::(DP 1 (.val (oI l6)::(DP 1 (.val (oI l7)::(DP 1 (.val (oI l8)::(DP 1 (.val (oI l9)::(DP 1 (.val (oI l10)::(DP 1 (.val (oI l11)::(DP 1 (.val (oO l12)::(DP 1 [])))))))))))))))))))))))))) ⟨[(0,.sl [] .own),(1,oO l12)],[]⟩ (And.intro (CP rfl fb) (And.intro (CP rfl fb1) (And.intro (CP rfl fb2) (And.intro (CP rfl fb3) (And.intro (CP rfl fb4) (And.intro (CP rfl fb5) (And.intro (CP rfl fb6) (And.intro (CP rfl fb7) (And.intro (CP rfl fb8) (And.intro (CP rfl fb9) (And.intro (CP rfl fb10) (And.intro (CP rfl fb11) (And.intro (CP rfl fb12) True.intro))))))))))))) (by kernel_rfl) ?_
 repeat first|apply z1|apply z2|apply z3|apply z4
 obtain⟨l13,K,h⟩:=Ac h
 have fb13:([[tP ⟨#[98,111,114,110]⟩],[tP ⟨#[100,105,101,100]⟩],[tP ⟨#[97,115,107,101,100]⟩],[tP ⟨#[104,101,108,100]⟩],[tP ⟨#[108,105,102,116,101,100]⟩]]:List (List PV))=l13.map Fi:=by rw [<- Af K];simp only [Þ,ï,Iw]<;>rfl
 refine wr [0,1,35,36,37] 0 (.val (oS l13)::(.val (iP (l13.length:Int))::(DP 1 []))) ⟨[(0,.sl [] .own),(1,oO l12),(35,oS l13),(36,iP (l13.length:Int)),(37,iP 0)],[]⟩ (And.intro (CP rfl fb13) (And.intro (Xe l13 Fi) True.intro)) (by kernel_rfl) ?_
 repeat first|apply z1|apply z2|apply z3|apply z4
 obtain⟨y,e,h⟩:=Ac h
 refine MW (A:=((List Aa)×Int×Bool)) (fun v=>v=y) (fun y=>match y with|(l14,v37,v38)=>⟨[(0,.sl [] .own),(1,oO l14),(35,oS l13),(36,iP (l13.length:Int)),(37,iP v37),(38,bP v38)],[]⟩) ?_ ?_
 . rintro⟨l14,v37,v38⟩ rfl
   show WS _ _ _ _ _ ⟨[(0,.sl [] .own),(1,oO l14),(35,oS l13),(36,iP (l13.length:Int)),(37,iP v37),(38,bP v38)],[]⟩
   repeat first|apply z1|apply z2|apply z3|apply z4
   have X:=Af h
   subst X
   refine Ad2 (N:=0) (m:=8) [1,51] 1 (DP 8 []) ⟨[(1,oO Fq),(51,.mref 0)],[[.mp C9]]⟩ ⟨[(1,oO Fq),(51,.vmp C9)],[]⟩ True.intro (by kernel_rfl) (Wk.frz (σ0:=[]) (cs:=[.mp C9]) (fp:=fun _=>.undef) (fm:=.vmp C9) rfl (by exact Ø rfl) (.inr ⟨C9,rfl,rfl,rfl⟩) (by kernel_rfl) (by kernel_rfl)) (fun K' w=>?_)
   refine wrT [1,52] 1 (DP 1 []) ⟨[(1,oO Fq),(52,.ptr 0 0)],[[.mit C9 []]]⟩ True.intro (by kernel_rfl) ?_ w
   clear w K'
   repeat first|apply z1|apply z2|apply z3|apply z4
   refine Gl ?_
   refine SK [1,52] 1 (fun a:List Nat×(List Aa)=>a.1.Nodup/\(∀ i∈a.1,i<6)/\a.1.length<=6/\a.2=Fq++a.1.flatMap Gt) (fun a=>6-a.1.length) (fun a=>⟨[(1,oO a.2),(52,.ptr 0 0)],[[.mit C9 a.1]]⟩) ([],Fq) (Ø rfl) rfl ⟨by simp,by simp,by simp,by simp⟩ ?_
   rintro⟨seen,l⟩ ⟨E,F,z,H⟩
   show WS _ _ _ _ _ ⟨[(1,oO l),(52,.ptr 0 0)],[[.mit C9 seen]]⟩
   repeat first|apply z1|apply z2|apply z3|apply z4
   refine H3 (by kernel_rfl) fun K' w hP=>?_
   refine Vr (x:=.tmp 52) (d:=53) (k:=0) (kvs:=C9) (seen:=seen) rfl rfl rfl rfl (fun L=>?_) (fun i U W=>?_)
   . refine wrT [1,54] 1 (DP 1 []) ⟨[(1,oO l),(54,bP false)],[[.mit C9 seen]]⟩ True.intro (by kernel_rfl) ?_ w
     clear w hP K'
     repeat first|apply z1|apply z2|apply z3|apply z4
     refine Ew rfl ?_
     repeat first|apply z1|apply z2|apply z3|apply z4
     try refine z5 rfl ?_
     repeat first|apply z1|apply z2|apply z3|apply z4
     refine JJ [1] 0 (by kernel_rfl) (Ø rfl) (st0:=⟨[(1,oO l)],[]⟩) (by kernel_rfl) ?_
     have hQ:=hQ seen (Acj E F L) l H
     obtain⟨r,h⟩:=Aaf l (Ve z H)
     have hQ:=hQ r h
     rw [<- j] at h
     unfold Yr at h
     repeat first|apply z1|apply z2|apply z3|apply z4
     obtain⟨l1,o,h⟩:=Ac h
     have fb:([[iP 1],[iP 2],[iP 3],[iP 4]]:List (List PV))=l1.map BG:=by rw [<- Af o];simp only [Þ,ï,Bs]<;>rfl
     refine wr [1,84,85,86] 0 (.val (oI l1)::(.val (iP (l1.length:Int))::(DP 1 []))) ⟨[(1,oO l),(84,oI l1),(85,iP (l1.length:Int)),(86,iP 0)],[]⟩ (And.intro (CP rfl fb) (And.intro (Xe l1 BG) True.intro)) (by kernel_rfl) ?_
     repeat first|apply z1|apply z2|apply z3|apply z4
     obtain⟨y,e,h⟩:=Ac h
     refine MW (A:=(List Aa)) (fun v=>v=y) (fun l2=>⟨[(1,oO l2)],[]⟩) ?_ ?_
     . rintro l2 rfl
       show WS _ _ _ _ _ ⟨[(1,oO l2)],[]⟩
       repeat first|apply z1|apply z2|apply z3|apply z4
       refine wr [0] 0 (DP 2 []) ⟨[(0,hO l2)],[]⟩ True.intro (by kernel_rfl) ?_
       repeat first|apply z1|apply z2|apply z3|apply z4
       obtain rfl:=Af h
       exact HS (GV hQ (by kernel_rfl)).1
     . intro hJ
       repeat first|apply z1|apply z2|apply z3|apply z4
       refine Gl ?_
       repeat first|apply z1|apply z2|apply z3|apply z4
       refine SK [1,84,85,86] 0 (fun a:Nat×((List Aa)×Int)=>Be a.1 l1 a.2.1 a.2.2=some y) (fun a=>a.1) (fun a:Nat×((List Aa)×Int)=>match a with|(_,(l3,v86))=>⟨[(1,oO l3),(84,oI l1),(85,iP (l1.length:Int)),(86,iP v86)],[]⟩) (n,(l,0)) (Ø rfl) rfl e ?_
       clear e
       rintro⟨n,l3,v86⟩ e
       show WS _ _ _ _ _ ⟨[(1,oO l3),(84,oI l1),(85,iP (l1.length:Int)),(86,iP v86)],[]⟩
       cases n with
       |zero=>exact absurd e (by simp [Be])
       |succ n =>
        replace e:=(Be.eq_2 (n:=n) l1 l3 v86).symm.trans e
        repeat first|apply z1|apply z2|apply z3|apply z4
        refine wr [1,84,85,86,87] 0 (DP 1 []) ⟨[(1,oO l3),(84,oI l1),(85,iP (l1.length:Int)),(86,iP v86),(87,bP (decide (v86<(l1.length:Int))))],[]⟩ True.intro (by kernel_rfl) ?_
        repeat first|apply z1|apply z2|apply z3|apply z4
        rcases Ao e with⟨c,e⟩|⟨c,e⟩
        . refine FE (test c) ?_
          repeat first|apply z1|apply z2|apply z3|apply z4
          refine Gl ?_
          repeat first|apply z1|apply z2|apply z3|apply z4
          obtain⟨x,M,e⟩:=Ac e
          refine wr [1,9,84,85,86] 0 (.val (.vptr [iP x] 0)::(DP 2 [])) ⟨[(1,oO l3),(9,iP x),(84,oI l1),(85,iP (l1.length:Int)),(86,iP v86)],[]⟩ (And.intro (oi M Ku (Bs x)) True.intro) (by kernel_rfl) ?_
          repeat first|apply z1|apply z2|apply z3|apply z4
          obtain⟨l4,p,e⟩:=Ac e
          have fb1:([[iP 3],[iP x],[iP x]]:List (List PV))=l4.map BG:=by rw [<- Af p];simp only [Þ,ï,Bs]<;>rfl
          obtain⟨l5,q,e⟩:=Ac e
          have fb2:([[iP 20,tP ⟨#[]⟩,hI l4,iP x,.fno true 108 []]]:List (List PV))=l5.map AO:=by rw [<- Af q];simp only [Þ,ï,BK]<;>rfl
          obtain⟨l6,s,e⟩:=Ac e
          refine wr [1,9,84,85,86] 0 (DP 3 (.val (oI l4)::(DP 2 (.val (oO l5)::(.val (oO l6)::(DP 1 [])))))) ⟨[(1,oO l6),(9,iP x),(84,oI l1),(85,iP (l1.length:Int)),(86,iP v86)],[]⟩ (And.intro (CP rfl fb1) (And.intro (CP rfl fb2) (And.intro (Yy s BW) True.intro))) (by kernel_rfl) ?_
          repeat first|apply z1|apply z2|apply z3|apply z4
          obtain⟨y1,e1,e⟩:=Ac e
          refine MW (A:=Bool) (fun v=>v=y1) (fun v103=>⟨[(1,oO l6),(9,iP x),(84,oI l1),(85,iP (l1.length:Int)),(86,iP v86),(103,bP v103)],[]⟩) ?_ ?_
          . rintro v103 rfl
            show WS _ _ _ _ _ ⟨[(1,oO l6),(9,iP x),(84,oI l1),(85,iP (l1.length:Int)),(86,iP v86),(103,bP v103)],[]⟩
            repeat first|apply z1|apply z2|apply z3|apply z4
            rcases Ao e with⟨u,e⟩|⟨u,e⟩
            . refine FE (test u) ?_
              repeat first|apply z1|apply z2|apply z3|apply z4
              obtain⟨l7,B,e⟩:=Ac e
              have fb3:([[iP x],[iP x]]:List (List PV))=l7.map BG:=by rw [<- Af B];simp only [Þ,ï,Bs]<;>rfl
              obtain⟨l8,C,e⟩:=Ac e
              have fb4:([[iP x],[iP x]]:List (List PV))=l8.map BG:=by rw [<- Af C];simp only [Þ,ï,Bs]<;>rfl
              obtain⟨l9,D,e⟩:=Ac e
              have fb5:([[iP 4,tP ⟨#[109,105,110]⟩,hI l7,iP x,.fno true 109 []],[iP 4,tP ⟨#[109,97,120]⟩,hI l8,iP x,.fno true 110 []]]:List (List PV))=l9.map AO:=by rw [<- Af D];simp only [Þ,ï,BK]<;>rfl
              obtain⟨l10,t,e⟩:=Ac e
              refine wr [1,84,85,86] 0 (DP 3 (.val (oI l7)::(DP 4 (.val (oI l8)::(DP 2 (.val (oO l9)::(.val (oO l10)::(DP 1 [])))))))) ⟨[(1,oO l10),(84,oI l1),(85,iP (l1.length:Int)),(86,iP v86)],[]⟩ (And.intro (CP rfl fb3) (And.intro (CP rfl fb4) (And.intro (CP rfl fb5) (And.intro (Yy t BW) True.intro)))) (by kernel_rfl) ?_
              repeat first|apply z1|apply z2|apply z3|apply z4
              refine wr [1,84,85,86] 0 (DP 2 []) ⟨[(1,oO l10),(84,oI l1),(85,iP (l1.length:Int)),(86,iP (À (v86+1)))],[]⟩ True.intro (by kernel_rfl) ?_
              repeat first|exact IS (n,(l10,(À (v86+1)))) rfl e (ģ _)|apply z3|apply z2|apply z1|apply z4
            . refine Ew (test u) ?_
              repeat first|apply z1|apply z2|apply z3|apply z4
              refine wr [1,84,85,86] 0 (DP 2 []) ⟨[(1,oO l6),(84,oI l1),(85,iP (l1.length:Int)),(86,iP (À (v86+1)))],[]⟩ True.intro (by kernel_rfl) ?_
              repeat first|exact IS (n,(l6,(À (v86+1)))) rfl e (ģ _)|apply z3|apply z2|apply z1|apply z4
          . intro g
            rcases Ao e1 with⟨b,e1⟩|⟨b,e1⟩
            . exact wr [1,9,84,85,86,103] 0 (DP 2 (.val (.lit (.bool true))::(DP 3 []))) ⟨[(1,oO l6),(9,iP x),(84,oI l1),(85,iP (l1.length:Int)),(86,iP v86),(103,bP true)],[]⟩ (And.intro (NZ b) True.intro) (by kernel_rfl) (g true (Af e1))
            . exact wr [1,9,84,85,86,103] 0 (DP 2 (.val (.lit (.bool false))::(DP 3 []))) ⟨[(1,oO l6),(9,iP x),(84,oI l1),(85,iP (l1.length:Int)),(86,iP v86),(103,bP (x == 2))],[]⟩ (And.intro (NZ b) True.intro) (by kernel_rfl) (g (x == 2) (Af e1))
        . refine Ew (test c) ?_
          repeat first|apply z1|apply z2|apply z3|apply z4
          try refine z5 rfl ?_
          repeat first|exact JJ [1] 0 rfl (Ø rfl) rfl (hJ l3 (Af e))|apply z3|apply z2|apply z1|apply z4
   . obtain⟨op,f,Y,V⟩:=Afp i U
     refine wrT [1,52,54] 1 (DP 1 []) ⟨[(1,oO l),(52,.ptr 0 0),(54,bP true)],[[.mit C9 (seen++[i])]]⟩ True.intro (by kernel_rfl) ?_ w
     clear w hP K'
     repeat first|apply z1|apply z2|apply z3|apply z4
     refine FE rfl ?_
     repeat first|apply z1|apply z2|apply z3|apply z4
     refine Gl ?_
     repeat first|apply z1|apply z2|apply z3|apply z4
     refine H3 (by kernel_rfl) fun K' w hP=>?_
     refine TZ (x:=.tmp 52) (d:=55) (k:=0) (i:=i) (kvs:=C9) (seen:=seen) rfl rfl rfl rfl Y ?_
     refine wrT [1,4,5,52] 2 (DP 5 []) ⟨[(1,oO l),(4,iP op),(5,.ptr 1 0),(52,.ptr 0 0)],[[.mit C9 (seen++[i])],[.fno true f []]]⟩ True.intro (by kernel_rfl) ?_ w
     clear w hP K'
     refine NK [[.mit C9 (seen++[i])]] [.fno true f []] ⟨[(1,oO l),(4,iP op),(5,.vptr [.fno true f []] 0),(52,.ptr 0 0)],[[.mit C9 (seen++[i])]]⟩ (by kernel_rfl) rfl (Ø rfl) (by kernel_rfl) (by kernel_rfl) (by kernel_rfl) (by kernel_rfl) ?_
     obtain⟨r,hB,h⟩:∃ r,r=l++I1 op f/\Aah n l op f=some r:=⟨_,rfl,by rw [j];exact Aag l op f (Ve z H)⟩
     unfold Aah at h
     repeat first|apply z1|apply z2|apply z3|apply z4
     obtain⟨l1,o,h⟩:=Ac h
     have fb:([[iP 1],[iP 2],[iP 4]]:List (List PV))=l1.map BG:=by rw [<- Af o];simp only [Þ,ï,Bs]<;>rfl
     refine wr [1,4,5,52,58,59,60] 1 (.val (oI l1)::(.val (iP (l1.length:Int))::(DP 1 []))) ⟨[(1,oO l),(4,iP op),(5,.vptr [.fno true f []] 0),(52,.ptr 0 0),(58,oI l1),(59,iP (l1.length:Int)),(60,iP 0)],[[.mit C9 (seen++[i])]]⟩ (And.intro (CP rfl fb) (And.intro (Xe l1 BG) True.intro)) (by kernel_rfl) ?_
     repeat first|apply z1|apply z2|apply z3|apply z4
     obtain⟨y,e,h⟩:=Ac h
     refine MW (A:=((List Aa)×Int×Bool)) (fun v=>v=y) (fun y=>match y with|(l2,v60,v61)=>⟨[(1,oO l2),(4,iP op),(5,.vptr [.fno true f []] 0),(52,.ptr 0 0),(58,oI l1),(59,iP (l1.length:Int)),(60,iP v60),(61,bP v61)],[[.mit C9 (seen++[i])]]⟩) ?_ ?_
     . rintro⟨l2,v60,v61⟩ rfl
       show WS _ _ _ _ _ ⟨[(1,oO l2),(4,iP op),(5,.vptr [.fno true f []] 0),(52,.ptr 0 0),(58,oI l1),(59,iP (l1.length:Int)),(60,iP v60),(61,bP v61)],[[.mit C9 (seen++[i])]]⟩
       repeat first|exact IS (seen++[i],l2) rfl (Afj E F H W U V hB h) (Afi E F W U)|apply z3|apply z2|apply z1|apply z4
     . intro hJ
       repeat first|apply z1|apply z2|apply z3|apply z4
       refine Gl ?_
       repeat first|apply z1|apply z2|apply z3|apply z4
       refine SK [1,4,5,52,58,59,60] 1 (fun a:Nat×((List Aa)×Int)=>AT a.1 l1 op f a.2.1 a.2.2=some y) (fun a=>a.1) (fun a:Nat×((List Aa)×Int)=>match a with|(_,(l3,v601))=>⟨[(1,oO l3),(4,iP op),(5,.vptr [.fno true f []] 0),(52,.ptr 0 0),(58,oI l1),(59,iP (l1.length:Int)),(60,iP v601)],[[.mit C9 (seen++[i])]]⟩) (n,(l,0)) (Ø rfl) rfl e ?_
       clear e
       rintro⟨n,l3,v601⟩ e
       show WS _ _ _ _ _ ⟨[(1,oO l3),(4,iP op),(5,.vptr [.fno true f []] 0),(52,.ptr 0 0),(58,oI l1),(59,iP (l1.length:Int)),(60,iP v601)],[[.mit C9 (seen++[i])]]⟩
       cases n with
       |zero=>exact absurd e (by simp [AT])
       |succ n =>
        replace e:=(AT.eq_2 (n:=n) l1 op f l3 v601).symm.trans e
        repeat first|apply z1|apply z2|apply z3|apply z4
        refine wr [1,4,5,52,58,59,60,61] 1 (DP 1 []) ⟨[(1,oO l3),(4,iP op),(5,.vptr [.fno true f []] 0),(52,.ptr 0 0),(58,oI l1),(59,iP (l1.length:Int)),(60,iP v601),(61,bP (decide (v601<(l1.length:Int))))],[[.mit C9 (seen++[i])]]⟩ True.intro (by kernel_rfl) ?_
        repeat first|apply z1|apply z2|apply z3|apply z4
        rcases Ao e with⟨G,e⟩|⟨G,e⟩
        . refine FE (test G) ?_
          repeat first|apply z1|apply z2|apply z3|apply z4
          refine Gl ?_
          repeat first|apply z1|apply z2|apply z3|apply z4
          obtain⟨x,M,e⟩:=Ac e
          refine wr [1,4,5,7,52,58,59,60,61] 1 (.val (.vptr [iP x] 0)::(DP 2 [])) ⟨[(1,oO l3),(4,iP op),(5,.vptr [.fno true f []] 0),(7,iP x),(52,.ptr 0 0),(58,oI l1),(59,iP (l1.length:Int)),(60,iP v601),(61,bP (decide (v601<(l1.length:Int))))],[[.mit C9 (seen++[i])]]⟩ (And.intro (oi M Ku (Bs x)) True.intro) (by kernel_rfl) ?_
          repeat first|apply z1|apply z2|apply z3|apply z4
          obtain⟨y1,e1,e⟩:=Ac e
          refine MW (A:=Bool) (fun v=>v=y1) (fun v73=>⟨[(1,oO l3),(4,iP op),(5,.vptr [.fno true f []] 0),(7,iP x),(52,.ptr 0 0),(58,oI l1),(59,iP (l1.length:Int)),(60,iP v601),(61,bP (decide (v601<(l1.length:Int)))),(73,bP v73)],[[.mit C9 (seen++[i])]]⟩) ?_ ?_
          . rintro v73 rfl
            show WS _ _ _ _ _ ⟨[(1,oO l3),(4,iP op),(5,.vptr [.fno true f []] 0),(7,iP x),(52,.ptr 0 0),(58,oI l1),(59,iP (l1.length:Int)),(60,iP v601),(61,bP (decide (v601<(l1.length:Int)))),(73,bP v73)],[[.mit C9 (seen++[i])]]⟩
            repeat first|apply z1|apply z2|apply z3|apply z4
            rcases Ao e with⟨u,e⟩|⟨u,e⟩
            . refine FE (test u) ?_
              repeat first|apply z1|apply z2|apply z3|apply z4
              obtain⟨l4,p,e⟩:=Ac e
              have fb1:([[iP x],[iP x]]:List (List PV))=l4.map BG:=by rw [<- Af p];simp only [Þ,ï,Bs]<;>rfl
              obtain⟨l5,q,e⟩:=Ac e
              have fb2:([[iP op,tP ⟨#[]⟩,hI l4,iP 3,.fno true 106 [.vptr [.fno true f []] 0]]]:List (List PV))=l5.map AO:=by rw [<- Af q];simp only [Þ,ï,BK]<;>rfl
              obtain⟨l6,s,e⟩:=Ac e
              refine wr [1,4,5,52,58,59,60,61] 1 (DP 4 (.val (oI l4)::(DP 2 (.val (oO l5)::(.val (oO l6)::(DP 1 [])))))) ⟨[(1,oO l6),(4,iP op),(5,.vptr [.fno true f []] 0),(52,.ptr 0 0),(58,oI l1),(59,iP (l1.length:Int)),(60,iP v601),(61,bP (decide (v601<(l1.length:Int))))],[[.mit C9 (seen++[i])]]⟩ (And.intro (CP rfl fb1) (And.intro (CP rfl fb2) (And.intro (Yy s BW) True.intro))) (by kernel_rfl) ?_
              repeat first|apply z1|apply z2|apply z3|apply z4
              refine wr [1,4,5,52,58,59,60,61] 1 (DP 2 []) ⟨[(1,oO l6),(4,iP op),(5,.vptr [.fno true f []] 0),(52,.ptr 0 0),(58,oI l1),(59,iP (l1.length:Int)),(60,iP (À (v601+1))),(61,bP (decide (v601<(l1.length:Int))))],[[.mit C9 (seen++[i])]]⟩ True.intro (by kernel_rfl) ?_
              repeat first|exact IS (n,(l6,(À (v601+1)))) rfl e (ģ _)|apply z3|apply z2|apply z1|apply z4
            . refine Ew (test u) ?_
              repeat first|apply z1|apply z2|apply z3|apply z4
              refine wr [1,4,5,52,58,59,60,61] 1 (DP 2 []) ⟨[(1,oO l3),(4,iP op),(5,.vptr [.fno true f []] 0),(52,.ptr 0 0),(58,oI l1),(59,iP (l1.length:Int)),(60,iP (À (v601+1))),(61,bP (decide (v601<(l1.length:Int))))],[[.mit C9 (seen++[i])]]⟩ True.intro (by kernel_rfl) ?_
              repeat first|exact IS (n,(l3,(À (v601+1)))) rfl e (ģ _)|apply z3|apply z2|apply z1|apply z4
          . intro g
            rcases Ao e1 with⟨b,e1⟩|⟨b,e1⟩
            . exact wr [1,4,5,7,52,58,59,60,61,73] 1 (DP 2 (.val (.lit (.bool true))::(DP 7 []))) ⟨[(1,oO l3),(4,iP op),(5,.vptr [.fno true f []] 0),(7,iP x),(52,.ptr 0 0),(58,oI l1),(59,iP (l1.length:Int)),(60,iP v601),(61,bP (decide (v601<(l1.length:Int)))),(73,bP true)],[[.mit C9 (seen++[i])]]⟩ (And.intro (NZ b) True.intro) (by kernel_rfl) (g true (Af e1))
            . rcases Ao e1 with⟨c,e1⟩|⟨c,e1⟩
              . exact wr [1,4,5,7,52,58,59,60,61,73] 1 (DP 2 (.val (.lit (.bool false))::(DP 3 (.val (.lit (.bool true))::(DP 3 []))))) ⟨[(1,oO l3),(4,iP op),(5,.vptr [.fno true f []] 0),(7,iP x),(52,.ptr 0 0),(58,oI l1),(59,iP (l1.length:Int)),(60,iP v601),(61,bP (decide (v601<(l1.length:Int)))),(73,bP true)],[[.mit C9 (seen++[i])]]⟩ (And.intro (NZ b) (And.intro (NZ c) True.intro)) (by kernel_rfl) (g true (Af e1))
              . exact wr [1,4,5,7,52,58,59,60,61,73] 1 (DP 2 (.val (.lit (.bool false))::(DP 3 (.val (.lit (.bool false))::(DP 3 []))))) ⟨[(1,oO l3),(4,iP op),(5,.vptr [.fno true f []] 0),(7,iP x),(52,.ptr 0 0),(58,oI l1),(59,iP (l1.length:Int)),(60,iP v601),(61,bP (decide (v601<(l1.length:Int)))),(73,bP (op == 13))],[[.mit C9 (seen++[i])]]⟩ (And.intro (NZ b) (And.intro (NZ c) True.intro)) (by kernel_rfl) (g (op == 13) (Af e1))
        . refine Ew (test G) ?_
          repeat first|apply z1|apply z2|apply z3|apply z4
          try refine z5 rfl ?_
          repeat first|exact JJ [1,4,5,52,58,59,60,61] 1 rfl (Ø rfl) rfl (hJ (l3,v601,(decide (v601<(l1.length:Int)))) (Af e))|apply z3|apply z2|apply z1|apply z4
 . intro hJ
   repeat first|apply z1|apply z2|apply z3|apply z4
   refine Gl ?_
   repeat first|apply z1|apply z2|apply z3|apply z4
   refine SK [0,1,35,36,37] 0 (fun a:Nat×((List Aa)×Int)=>C1 a.1 l13 a.2.1 a.2.2=some y) (fun a=>a.1) (fun a:Nat×((List Aa)×Int)=>match a with|(_,(l15,v371))=>⟨[(0,.sl [] .own),(1,oO l15),(35,oS l13),(36,iP (l13.length:Int)),(37,iP v371)],[]⟩) (n,(l12,0)) (Ø rfl) rfl e ?_
   clear e
   rintro⟨n,l15,v371⟩ e
   show WS _ _ _ _ _ ⟨[(0,.sl [] .own),(1,oO l15),(35,oS l13),(36,iP (l13.length:Int)),(37,iP v371)],[]⟩
   cases n with
   |zero=>exact absurd e (by simp [C1])
   |succ n =>
    replace e:=(C1.eq_2 (n:=n) l13 l15 v371).symm.trans e
    repeat first|apply z1|apply z2|apply z3|apply z4
    refine wr [0,1,35,36,37,38] 0 (DP 1 []) ⟨[(0,.sl [] .own),(1,oO l15),(35,oS l13),(36,iP (l13.length:Int)),(37,iP v371),(38,bP (decide (v371<(l13.length:Int))))],[]⟩ True.intro (by kernel_rfl) ?_
    repeat first|apply z1|apply z2|apply z3|apply z4
    rcases Ao e with⟨u,e⟩|⟨u,e⟩
    . refine FE (test u) ?_
      repeat first|apply z1|apply z2|apply z3|apply z4
      refine Gl ?_
      repeat first|apply z1|apply z2|apply z3|apply z4
      obtain⟨x,M,e⟩:=Ac e
      refine wr [0,1,2,3,35,36,37,38] 1 (DP 1 (.val (.vptr [tP x] 0)::(DP 4 []))) ⟨[(0,.sl [] .own),(1,oO l15),(2,.ptr 0 0),(3,tP x),(35,oS l13),(36,iP (l13.length:Int)),(37,iP v371),(38,bP (decide (v371<(l13.length:Int))))],[[iP v371]]⟩ (And.intro (oi M Ks (Iw x)) True.intro) (by kernel_rfl) ?_
      refine NK [] [iP v371] ⟨[(0,.sl [] .own),(1,oO l15),(2,.vptr [iP v371] 0),(3,tP x),(35,oS l13),(36,iP (l13.length:Int)),(37,iP v371),(38,bP (decide (v371<(l13.length:Int))))],[]⟩ (by kernel_rfl) rfl (Ø rfl) (by kernel_rfl) (by kernel_rfl) (by kernel_rfl) (by kernel_rfl) ?_
      repeat first|apply z1|apply z2|apply z3|apply z4
      obtain⟨l16,O,e⟩:=Ac e
      have fb14:([[iP 4]]:List (List PV))=l16.map BG:=by rw [<- Af O];simp only [Þ,ï,Bs]<;>rfl
      obtain⟨l17,P,e⟩:=Ac e
      have fb15:([[iP 4,tP x,hI l16,iP 2,.fno true 98 [.vptr [iP v371] 0]]]:List (List PV))=l17.map AO:=by rw [<- Af P];simp only [Þ,ï,BK]<;>rfl
      obtain⟨l18,R,e⟩:=Ac e
      refine wr [0,1,35,36,37,38] 0 (DP 2 (.val (oI l16)::(DP 2 (.val (oO l17)::(.val (oO l18)::(DP 1 [])))))) ⟨[(0,.sl [] .own),(1,oO l18),(35,oS l13),(36,iP (l13.length:Int)),(37,iP v371),(38,bP (decide (v371<(l13.length:Int))))],[]⟩ (And.intro (CP rfl fb14) (And.intro (CP rfl fb15) (And.intro (Yy R BW) True.intro))) (by kernel_rfl) ?_
      repeat first|apply z1|apply z2|apply z3|apply z4
      refine wr [0,1,35,36,37,38] 0 (DP 2 []) ⟨[(0,.sl [] .own),(1,oO l18),(35,oS l13),(36,iP (l13.length:Int)),(37,iP (À (v371+1))),(38,bP (decide (v371<(l13.length:Int))))],[]⟩ True.intro (by kernel_rfl) ?_
      repeat first|exact IS (n,(l18,(À (v371+1)))) rfl e (ģ _)|apply z3|apply z2|apply z1|apply z4
    . refine Ew (test u) ?_
      repeat first|apply z1|apply z2|apply z3|apply z4
      try refine z5 rfl ?_
      repeat first|exact JJ [0,1,35,36,37,38] 0 rfl (Ø rfl) rfl (hJ (l15,v371,(decide (v371<(l13.length:Int)))) (Af e))|apply z3|apply z2|apply z1|apply z4
end Go.Proofs.YtehfpameijkafaaGreatDoor
namespace Go.Proofs.YtehfpameijkafaaGreatDoor
open Go.RowKit Go.Q Go.Vl Go.Sp
set_option maxRecDepth 100000
theorem Ad4:Cz Tryz.prog 60 [] Bh:=by
 intro σ
 refine VC.pure (Q:=fun x=>x=.ret Bh) ?_ rfl |>.mono fun x σ' h=>h
 refine VC.less (Ad5 (fun x σ'=>∃ y os,Ord os/\shareP y=hP (opsOf os) AO/\x=.ret y/\σ'=[]) ?_) ?_
 . intro os a l d r f y b
   refine⟨y,os,a,?_,rfl,rfl⟩
   have c:=Wh l (Ve (ndl 6 os a.1 a.2.1) d)
   rw [c] at f
   rw [b,<- Af f,d]
   rfl
 . rintro x σ' ⟨y,os,a,b,rfl,rfl⟩
   refine⟨.ret Bh,⟨rfl,rfl⟩,fun w G e i=>?_⟩
   obtain⟨v,c,g,_⟩:=CT.shareP i
   rw [b] at g
   exact⟨v,c,.dis _ _ os _ (by rw [Yq a];exact g),trivial⟩
theorem Xf:Cc [] Tryz.f61.ntmps (Tryz.f61.body.getD .skip)=true:=by kernel_rfl
theorem ZH (Q:Cb->List (List PV)->Prop)(hQ:∀ y,shareP y=CO->Q (.ret y) []):VC Tryz.prog 61 [] [] Q:=by
 refine VC.intro ⟨[0],[]⟩ Tryz.func61 rfl follows Xf (by rw [Tryz.ntmps61];exact Ø rfl) ?_
 refine Qp ?_
 repeat first|apply z1|apply z2|apply z3|apply z4
 refine wr [0] 0 (DP 1 []) ⟨[(0,.lit (.map none))],[]⟩ True.intro (by kernel_rfl) ?_
 repeat first|apply z1|apply z2|apply z3|apply z4
 refine wr [0] 1 (DP 7 []) ⟨[(0,.mref 0)],[[.mp (M7 C7)]]⟩ True.intro (by kernel_rfl) ?_
 repeat first|apply z1|apply z2|apply z3|apply z4
 refine VF [] (M7 C7) ⟨[(0,CO)],[]⟩ (by kernel_rfl) rfl (Ø rfl) (by kernel_rfl) (by kernel_rfl) (by kernel_rfl) ?_
 exact HS (GV hQ (by kernel_rfl)).1
theorem Aca:Cz Tryz.prog 61 [] CO:=VC.fin (fun Q hQ=>ZH Q hQ) rfl rfl
theorem Yu:Cc [] Tryz.f35.ntmps (Tryz.f35.body.getD .skip)=true:=by kernel_rfl
theorem Acb (Q:Cb->List (List PV)->Prop)(hQ:∀ y,shareP y=.agg [Bh,CO]->Q (.ret y) []):VC Tryz.prog 35 [] [] Q:=by
 refine VC.intro ⟨[0],[]⟩ Tryz.func35 rfl follows Yu (by rw [Tryz.ntmps35];exact Ø rfl) ?_
 refine Qp ?_
 repeat first|apply z1|apply z2|apply z3|apply z4
 refine wr [0] 1 (DP 1 []) ⟨[(0,.ptr 0 0)],[[.sl [] .own,.lit (.map none)]]⟩ True.intro (by kernel_rfl) ?_
 repeat first|apply z1|apply z2|apply z3|apply z4
 refine wr [0] 1 (.call Bh::.call CO::DP 2 []) ⟨[(0,.ptr 0 0)],[[Bh,CO]]⟩ (And.intro Ad4 (And.intro Aca True.intro)) (by kernel_rfl) ?_
 repeat first|apply z1|apply z2|apply z3|apply z4
 exact HS (GV hQ (by kernel_rfl)).1
theorem OS:Cz Tryz.prog 35 [] (.agg [Bh,CO]):=VC.fin (fun Q hQ=>Acb Q hQ) rfl rfl
end Go.Proofs.YtehfpameijkafaaGreatDoor
namespace Go.Proofs.YtehfpameijkafaaGreatDoor
open Go.RowKit Go.Q Go.Vl Go.Sp
set_option maxRecDepth 100000
set_option linter.unusedSimpArgs false
set_option maxHeartbeats 4000000
set_option linter.unusedVariables false
theorem JT (m_:Ai)(x:(List Int))(r:Int)(h:Fc m_ x=some r):Cz Tryz.prog 82 [.agg (kM m_),hI x] (iP r):=by
 unfold Fc at h
 refine vP ⟨[0,1,4],[]⟩ Tryz.func82 follows fun Q b=>?_
 obtain⟨x1,a,h⟩:=Ac h
 cases h
 exact rt 2 [(3,fi A7 a)] b
theorem Ng (x:Int)(y:Int)(r:(Int×Int))(h:Et x y=some r):Cz Tryz.prog 141 [.lit (.int .u64 x),.lit (.int .u64 y)] (.tup [.lit (.int .u64 r.1),.lit (.int .u64 r.2)]):=by
 unfold Et at h
 refine vP ⟨[0,1,4,5,6,7,8,9,10,11,12,13],[]⟩ Tryz.func141 follows fun Q a=>?_
 cases h
 exact rt 12 [] a
theorem OR (a_:Int)(b:Int)(r:Int)(h:Da a_ b=some r):Cz Tryz.prog 84 [iP a_,iP b] (iP r):=by
 unfold Da at h
 refine vP ⟨[0,1,4,5,6,7,27,34],[]⟩ Tryz.func84 follows fun Q g=>?_
 obtain⟨m_,d,h⟩:=Ac h
 refine mE 3 [(11,fk (Ng _ _ _ d))] h (fun v27=>⟨[(0,iP a_),(1,iP b),(4,iP 0),(6,.lit (.int .u64 m_.2)),(7,iP 999999999999999),(27,bP v27)],[]⟩) ?_ fun y e hJ=>?_
 rintro v27 h
 refine mE 0 [] h (fun n_=>⟨[(0,iP a_),(1,iP b),(4,iP 0),(7,iP n_)],[]⟩) ?_ fun y1 e1 c=>?_
 rintro n_ h
 refine cD 1 [] h (fun i h=>?_) fun i h=>?_
 cases h
 exact rt 1 [] g
 cases h
 exact rt 1 [] g
 refine cD 0 [] e1 (fun f e1=>?_) fun f e1=>?_
 exact mJ 1 [] (c _ (oj e1))
 exact mJ 0 [] (c _ (oj e1))
 rcases Ao e with⟨a,e⟩|⟨a,e⟩
 exact mJ 1 [(2,fo a)] (hJ _ (oj e))
 exact mJ 1 [(2,fo a)] (hJ _ (oj e))
theorem JS (m_:Ai)(x:(List Int))(r:Int)(h:Fb m_ x=some r):Cz Tryz.prog 83 [.agg (kM m_),hI x] (iP r):=by
 unfold Fb at h
 refine vP ⟨[0,1,4],[(1,[9999,0,0,1,2,3,4,5,6,7])]⟩ Tryz.func83 follows fun Q c=>?_
 obtain⟨x1,a,h⟩:=Ac h
 obtain⟨x2,b,h⟩:=Ac h
 obtain⟨t,d,h⟩:=Ac h
 cases h
 exact rt 2 [(3,fi A7 a),(2,fi A7 b),(1,fk (OR _ _ _ d))] c
theorem JB (n_:Int)(r:Int)(h:CB n_=some r):Cz Tryz.prog 86 [iP n_] (iP r):=by
 unfold CB at h
 refine vP ⟨[0,2],[]⟩ Tryz.func86 follows fun Q a=>?_
 cases h
 exact rt 2 [] a
theorem JR (m_:Ai)(x:(List Int))(r:Int)(h:EZ m_ x=some r):Cz Tryz.prog 85 [.agg (kM m_),hI x] (iP r):=by
 unfold EZ at h
 refine vP ⟨[0,1,4],[(1,[9999,0,0,1,2,3,4,5,6,7,8])]⟩ Tryz.func85 follows fun Q d=>?_
 obtain⟨x1,a,h⟩:=Ac h
 obtain⟨x2,b,h⟩:=Ac h
 obtain⟨n_,c,h⟩:=Ac h
 cases h
 exact rt 2 [(3,fi A7 a),(2,fi A7 b),(2,fk (JB _ _ c))] d
theorem Mq (n_:Int)(r:Int)(h:Ff n_=some r):Cz Tryz.prog 96 [iP n_] (iP r):=by
 unfold Ff at h
 refine vP ⟨[0,2],[]⟩ Tryz.func96 follows fun Q a=>?_
 cases h
 exact rt 2 [] a
theorem Ke (d:Int)(n_:Int)(r:Int)(h:Db d n_=some r):Cz Tryz.prog 88 [iP d,iP n_] (iP r):=by
 unfold Db at h
 refine vP ⟨[0,1,4,6],[]⟩ Tryz.func88 follows fun Q b=>?_
 refine cD 2 [] h (fun c h=>?_) fun c h=>?_
 cases h
 exact rt 1 [] b
 obtain⟨d1,a,h⟩:=Ac h
 cases h
 exact rt 1 [(3,fk (Mq _ _ a))] b
theorem JQ (m_:Ai)(x:(List Int))(r:Int)(h:EY m_ x=some r):Cz Tryz.prog 87 [.agg (kM m_),hI x] (iP r):=by
 unfold EY at h
 refine vP ⟨[0,1,4],[(1,[9999,0,0,1,2,3,4,5,6,7])]⟩ Tryz.func87 follows fun Q d=>?_
 obtain⟨x1,b,h⟩:=Ac h
 obtain⟨x2,c,h⟩:=Ac h
 obtain⟨m_1,a,h⟩:=Ac h
 cases h
 exact rt 2 [(3,fi A7 b),(2,fi A7 c),(1,fk (Ke _ _ _ a))] d
theorem JP (m_:Ai)(x:(List Int))(r:Int)(h:EX m_ x=some r):Cz Tryz.prog 89 [.agg (kM m_),hI x] (iP r):=by
 unfold EX at h
 refine vP ⟨[0,1,4],[(1,[9999,0,0,1,2,3,4,5,6,7,8])]⟩ Tryz.func89 follows fun Q d=>?_
 obtain⟨x1,a,h⟩:=Ac h
 obtain⟨x2,b,h⟩:=Ac h
 obtain⟨n_,c,h⟩:=Ac h
 cases h
 exact rt 2 [(3,fi A7 a),(2,fi A7 b),(2,fk (JB _ _ c))] d
theorem JO (m_:Ai)(x:(List Int))(r:Int)(h:EW m_ x=some r):Cz Tryz.prog 90 [.agg (kM m_),hI x] (iP r):=by
 unfold EW at h
 refine vP ⟨[0,1,4],[(1,[9999,0,0,1,2,3,4,5,6,7,8])]⟩ Tryz.func90 follows fun Q d=>?_
 obtain⟨x1,b,h⟩:=Ac h
 obtain⟨x2,c,h⟩:=Ac h
 obtain⟨m_1,a,h⟩:=Ac h
 cases h
 exact rt 2 [(3,fi A7 b),(2,fi A7 c),(2,fk (Ke _ _ _ a))] d
theorem JN (m_:Ai)(x:(List Int))(r:Int)(h:EV m_ x=some r):Cz Tryz.prog 91 [.agg (kM m_),hI x] (iP r):=by
 unfold EV at h
 refine vP ⟨[0,1,4],[(1,[9999,0,0,1,2,3,4,5,6,7])]⟩ Tryz.func91 follows fun Q c=>?_
 obtain⟨x1,a,h⟩:=Ac h
 obtain⟨x2,b,h⟩:=Ac h
 cases h
 exact rt 2 [(3,fi A7 a),(2,fi A7 b)] c
theorem JM (m_:Ai)(x:(List Int))(r:Int)(h:EU m_ x=some r):Cz Tryz.prog 92 [.agg (kM m_),hI x] (iP r):=by
 unfold EU at h
 refine vP ⟨[0,1,4],[]⟩ Tryz.func92 follows fun Q b=>?_
 obtain⟨x1,a,h⟩:=Ac h
 cases h
 exact rt 2 [(3,fi A7 a)] b
theorem JL (m_:Ai)(x:(List Int))(r:Int)(h:ET m_ x=some r):Cz Tryz.prog 93 [.agg (kM m_),hI x] (iP r):=by
 unfold ET at h
 refine vP ⟨[0,1,4],[(1,[9999,0,0,1,2,3,4,5,6,7])]⟩ Tryz.func93 follows fun Q c=>?_
 obtain⟨x1,a,h⟩:=Ac h
 obtain⟨x2,b,h⟩:=Ac h
 cases h
 exact rt 2 [(3,fi A7 a),(2,fi A7 b)] c
theorem Jh (m_:Ai)(x:(List Int))(r:Int)(h:EF m_ x=some r):Cz Tryz.prog 94 [.agg (kM m_),hI x] (iP r):=by
 unfold EF at h
 refine vP ⟨[0,1,4],[(1,[9999,0,0,1,2,3,4,5,6,7])]⟩ Tryz.func94 follows fun Q c=>?_
 obtain⟨x1,a,h⟩:=Ac h
 obtain⟨x2,b,h⟩:=Ac h
 cases h
 exact rt 2 [(3,fi A7 a),(2,fi A7 b)] c
theorem Jg (m_:Ai)(x:(List Int))(r:Int)(h:EE m_ x=some r):Cz Tryz.prog 95 [.agg (kM m_),hI x] (iP r):=by
 unfold EE at h
 refine vP ⟨[0,1,4],[]⟩ Tryz.func95 follows fun Q b=>?_
 obtain⟨x1,a,h⟩:=Ac h
 obtain⟨d,c,h⟩:=Ac h
 cases h
 exact rt 2 [(3,fi A7 a),(1,fk (Mq _ _ c))] b
theorem Jf (m_:Ai)(x:(List Int))(r:Int)(h:ED m_ x=some r):Cz Tryz.prog 97 [.agg (kM m_),hI x] (iP r):=by
 unfold ED at h
 refine vP ⟨[0,1,4],[]⟩ Tryz.func97 follows fun Q b=>?_
 obtain⟨x1,a,h⟩:=Ac h
 cases h
 exact rt 2 [(3,fi A7 a)] b
theorem IX (m_:Ai)(x:(List Int))(r:Int)(h:E5 m_ x=some r):Cz Tryz.prog 108 [.agg (kM m_),hI x] (iP r):=by
 unfold E5 at h
 refine vP ⟨[0,1,4],[]⟩ Tryz.func108 follows fun Q c=>?_
 obtain⟨x1,a,h⟩:=Ac h
 obtain⟨x2,b,h⟩:=Ac h
 cases h
 exact rt 2 [(4,fi A7 a),(2,fi A7 b)] c
theorem IW (m_:Ai)(x:(List Int))(r:Int)(h:E4 m_ x=some r):Cz Tryz.prog 109 [.agg (kM m_),hI x] (iP r):=by
 unfold E4 at h
 refine vP ⟨[0,1,4],[(1,[9999,0,0,1,2,3,4,5,6,7])]⟩ Tryz.func109 follows fun Q c=>?_
 obtain⟨x1,a,h⟩:=Ac h
 obtain⟨x2,b,h⟩:=Ac h
 cases h
 exact rt 2 [(3,fi A7 a),(2,fi A7 b)] c
theorem IV (m_:Ai)(x:(List Int))(r:Int)(h:E3 m_ x=some r):Cz Tryz.prog 110 [.agg (kM m_),hI x] (iP r):=by
 unfold E3 at h
 refine vP ⟨[0,1,4],[(1,[9999,0,0,1,2,3,4,5,6,7])]⟩ Tryz.func110 follows fun Q c=>?_
 obtain⟨x1,a,h⟩:=Ac h
 obtain⟨x2,b,h⟩:=Ac h
 cases h
 exact rt 2 [(3,fi A7 a),(2,fi A7 b)] c
theorem Jd (a_:Int)(b:Int)(r:Bool)(h:EB a_ b=some r):Cz Tryz.prog 100 [iP a_,iP b] (bP r):=by
 unfold EB at h
 refine vP ⟨[0,1,4],[]⟩ Tryz.func100 follows fun Q a=>?_
 cases h
 exact rt 2 [] a
theorem Jc (a_:Int)(b:Int)(r:Bool)(h:EA a_ b=some r):Cz Tryz.prog 101 [iP a_,iP b] (bP r):=by
 unfold EA at h
 refine vP ⟨[0,1,4],[]⟩ Tryz.func101 follows fun Q a=>?_
 cases h
 exact rt 2 [] a
theorem Jb (a_:Int)(b:Int)(r:Bool)(h:E9 a_ b=some r):Cz Tryz.prog 102 [iP a_,iP b] (bP r):=by
 unfold E9 at h
 refine vP ⟨[0,1,4],[]⟩ Tryz.func102 follows fun Q a=>?_
 cases h
 exact rt 2 [] a
theorem Ja (a_:Int)(b:Int)(r:Bool)(h:E8 a_ b=some r):Cz Tryz.prog 103 [iP a_,iP b] (bP r):=by
 unfold E8 at h
 refine vP ⟨[0,1,4],[]⟩ Tryz.func103 follows fun Q a=>?_
 cases h
 exact rt 2 [] a
theorem IZ (a_:Int)(b:Int)(r:Bool)(h:E7 a_ b=some r):Cz Tryz.prog 104 [iP a_,iP b] (bP r):=by
 unfold E7 at h
 refine vP ⟨[0,1,4],[]⟩ Tryz.func104 follows fun Q a=>?_
 cases h
 exact rt 2 [] a
theorem IY (a_:Int)(b:Int)(r:Bool)(h:E6 a_ b=some r):Cz Tryz.prog 105 [iP a_,iP b] (bP r):=by
 unfold E6 at h
 refine vP ⟨[0,1,4],[]⟩ Tryz.func105 follows fun Q a=>?_
 cases h
 exact rt 2 [] a
theorem LD (n:Nat)(m_:Ai)(kind:Int)(who:Int)(r:Int)(h:Cr n m_ kind who=some r):Cz Tryz.prog 99 [.agg (kM m_),iP kind,iP who] (iP r):=by
 unfold Cr at h
 refine vP ⟨[0,1,2,3,6,7,8,9,12,13,14,15,51,55],[(5,[9999,0,0,1,2,3,4,5,6,7,8,9,10,11,12,13,14,15,16,17,18,19,20,21,22,23,24,25,26,27,28,29,30,31,32])]⟩ Tryz.func99 follows fun Q m=>?_
 refine mE 3 [(6,fl BC m_.d.Facts)] h (fun best=>⟨[(3,.ptr 0 0),(6,iP 0),(7,iP best)],[kM m_]⟩) ?_ fun y e hJ=>?_
 rintro best h
 refine cD 1 [] h (fun o h=>?_) fun o h=>?_
 cases h
 exact rt 1 [] m
 obtain⟨x,p,h⟩:=Ac h
 cases h
 exact rt 1 [(4,fi BC p)] m
 refine lF 1 [] (A:=(Int×Int)) (fun n (best1,v14)=>Bu n m_ kind who best1 v14) (fun (best1,v14)=>⟨[(1,iP kind),(2,iP who),(3,.ptr 0 0),(6,iP 0),(7,iP best1),(12,hZ m_.d.Facts),(13,iP (m_.d.Facts.length:Int)),(14,iP v14)],[kM m_]⟩) (-1,0) e (fun _=>rfl) ?_
 rintro n ⟨best1,v14⟩ e ih
 replace e:=(Bu.eq_2 ..).symm.trans e
 refine cD 1 [] e (fun i e=>?_) fun i e=>?_
 obtain⟨x1,j,e⟩:=Ac e
 refine mE 2 [(1,fi BC j)] e (fun v51=>⟨[(1,iP kind),(2,iP who),(3,.ptr 0 0),(6,iP 0),(7,iP best1),(8,iP v14),(12,hZ m_.d.Facts),(13,iP (m_.d.Facts.length:Int)),(14,iP v14),(51,bP v51)],[kM m_,kZ x1]⟩) ?_ fun y1 e1 b=>?_
 rintro v51 e
 refine cD 0 [] e (fun k e=>?_) fun k e=>?_
 exact mJ 2 [] (ih (_,_) e)
 exact mJ 1 [] (ih (_,_) e)
 rcases Ao e1 with⟨a,e1⟩|⟨a,e1⟩
 rcases Ao e1 with⟨c,e1⟩|⟨c,e1⟩
 rcases Ao e1 with⟨f,e1⟩|⟨f,e1⟩
 rcases Ao e1 with⟨g,e1⟩|⟨g,e1⟩
 exact mJ 1 [(4,fo a),(5,fo c),(6,fo f),(2,fo g)] (b _ (oj e1))
 obtain⟨x2,l,e1⟩:=Ac e1
 exact mJ 1 [(4,fo a),(5,fo c),(6,fo f),(2,fo g),(6,fi BC l)] (b _ (oj e1))
 exact mJ 1 [(4,fo a),(5,fo c),(6,fo f)] (b _ (oj e1))
 exact mJ 1 [(4,fo a),(5,fo c)] (b _ (oj e1))
 exact mJ 1 [(4,fo a)] (b _ (oj e1))
 exact mJ 1 [] (hJ _ (oj e))
theorem Ey (b:Bool)(r:Int)(h:CU b=some r):Cz Tryz.prog 107 [bP b] (iP r):=by
 unfold CU at h
 refine vP ⟨[0,2,3],[]⟩ Tryz.func107 follows fun Q a=>?_
 refine cD 2 [] h (fun c h=>?_) fun c h=>?_
 cases h
 exact rt 1 [] a
 cases h
 exact rt 1 [] a
theorem Je (n:Nat)(k:Int)(m_:Ai)(x:(List Int))(r:Int)(h:EC n k m_ x=some r):Cz Tryz.prog 98 [.agg (kM m_),hI x,.vptr [iP k] 0] (iP r):=by
 unfold EC at h
 refine vP ⟨[0,1,2,3,5],[(1,[9999,0,0,1,2,3,4,5,6,7])]⟩ Tryz.func98 follows fun Q b=>?_
 obtain⟨x1,a,h⟩:=Ac h
 obtain⟨f,c,h⟩:=Ac h
 cases h
 exact rt 2 [(6,fi A7 a),(1,fk (LD _ _ _ _ _ c))] b
theorem HB (m_:Ai)(x:(List Int))(r:Int)(h:Dy m_ x=some r):Cz Tryz.prog 106 [.agg (kM m_),hI x,.vptr [.fno true 100 []] 0] (iP r):=by
 unfold Dy at h
 refine vP ⟨[0,1,2,5],[(1,[9999,0,0,1,2,3,4,5,6,7,8,9])]⟩ Tryz.func106 follows fun Q d=>?_
 obtain⟨x1,a,h⟩:=Ac h
 obtain⟨x2,b,h⟩:=Ac h
 obtain⟨o_,c,h⟩:=Ac h
 obtain⟨f,e,h⟩:=Ac h
 cases h
 exact rt 2 [(4,fi A7 a),(2,fi A7 b),(1,fk (Jd _ _ _ c)),(0,fk (Ey _ _ e))] d
theorem HA (m_:Ai)(x:(List Int))(r:Int)(h:Dx m_ x=some r):Cz Tryz.prog 106 [.agg (kM m_),hI x,.vptr [.fno true 101 []] 0] (iP r):=by
 unfold Dx at h
 refine vP ⟨[0,1,2,5],[(1,[9999,0,0,1,2,3,4,5,6,7,8,9])]⟩ Tryz.func106 follows fun Q d=>?_
 obtain⟨x1,a,h⟩:=Ac h
 obtain⟨x2,b,h⟩:=Ac h
 obtain⟨o_,c,h⟩:=Ac h
 obtain⟨f,e,h⟩:=Ac h
 cases h
 exact rt 2 [(4,fi A7 a),(2,fi A7 b),(1,fk (Jc _ _ _ c)),(0,fk (Ey _ _ e))] d
theorem H9 (m_:Ai)(x:(List Int))(r:Int)(h:Dw m_ x=some r):Cz Tryz.prog 106 [.agg (kM m_),hI x,.vptr [.fno true 102 []] 0] (iP r):=by
 unfold Dw at h
 refine vP ⟨[0,1,2,5],[(1,[9999,0,0,1,2,3,4,5,6,7,8,9])]⟩ Tryz.func106 follows fun Q d=>?_
 obtain⟨x1,a,h⟩:=Ac h
 obtain⟨x2,b,h⟩:=Ac h
 obtain⟨o_,c,h⟩:=Ac h
 obtain⟨f,e,h⟩:=Ac h
 cases h
 exact rt 2 [(4,fi A7 a),(2,fi A7 b),(1,fk (Jb _ _ _ c)),(0,fk (Ey _ _ e))] d
theorem H8 (m_:Ai)(x:(List Int))(r:Int)(h:Dv m_ x=some r):Cz Tryz.prog 106 [.agg (kM m_),hI x,.vptr [.fno true 103 []] 0] (iP r):=by
 unfold Dv at h
 refine vP ⟨[0,1,2,5],[(1,[9999,0,0,1,2,3,4,5,6,7,8,9])]⟩ Tryz.func106 follows fun Q d=>?_
 obtain⟨x1,a,h⟩:=Ac h
 obtain⟨x2,b,h⟩:=Ac h
 obtain⟨o_,c,h⟩:=Ac h
 obtain⟨f,e,h⟩:=Ac h
 cases h
 exact rt 2 [(4,fi A7 a),(2,fi A7 b),(1,fk (Ja _ _ _ c)),(0,fk (Ey _ _ e))] d
theorem H7 (m_:Ai)(x:(List Int))(r:Int)(h:Du m_ x=some r):Cz Tryz.prog 106 [.agg (kM m_),hI x,.vptr [.fno true 104 []] 0] (iP r):=by
 unfold Du at h
 refine vP ⟨[0,1,2,5],[(1,[9999,0,0,1,2,3,4,5,6,7,8,9])]⟩ Tryz.func106 follows fun Q d=>?_
 obtain⟨x1,a,h⟩:=Ac h
 obtain⟨x2,b,h⟩:=Ac h
 obtain⟨o_,c,h⟩:=Ac h
 obtain⟨f,e,h⟩:=Ac h
 cases h
 exact rt 2 [(4,fi A7 a),(2,fi A7 b),(1,fk (IZ _ _ _ c)),(0,fk (Ey _ _ e))] d
theorem H6 (m_:Ai)(x:(List Int))(r:Int)(h:Dt m_ x=some r):Cz Tryz.prog 106 [.agg (kM m_),hI x,.vptr [.fno true 105 []] 0] (iP r):=by
 unfold Dt at h
 refine vP ⟨[0,1,2,5],[(1,[9999,0,0,1,2,3,4,5,6,7,8,9])]⟩ Tryz.func106 follows fun Q d=>?_
 obtain⟨x1,a,h⟩:=Ac h
 obtain⟨x2,b,h⟩:=Ac h
 obtain⟨o_,c,h⟩:=Ac h
 obtain⟨f,e,h⟩:=Ac h
 cases h
 exact rt 2 [(4,fi A7 a),(2,fi A7 b),(1,fk (IY _ _ _ c)),(0,fk (Ey _ _ e))] d
end Go.Proofs.YtehfpameijkafaaGreatDoor
namespace Go.Proofs.YtehfpameijkafaaGreatDoor
open Go.RowKit Go.Q Go.Vl Go.Sp
set_option maxRecDepth 100000
set_option linter.unusedSimpArgs false
set_option maxHeartbeats 4000000
set_option linter.unusedVariables false
theorem Mo (op:Int)(r:Int)(h:DT op=some r):Cz Tryz.prog 66 [iP op] (iP r):=by
 unfold DT at h
 refine vP ⟨[0,2,3,4,8,11,13],[]⟩ Tryz.func66 follows fun Q a=>?_
 refine mE 4 [] h (fun v4=>⟨[(2,iP 0),(3,iP op),(4,bP v4)],[]⟩) ?_ fun y e hJ=>?_
 rintro v4 h
 refine cD 0 [] h (fun c h=>?_) fun c h=>?_
 cases h
 exact rt 1 [] a
 refine mE 1 [] h (fun v8=>⟨[(2,iP 0),(3,iP op),(8,bP v8)],[]⟩) ?_ fun y1 e1 b=>?_
 rintro v8 h
 refine cD 0 [] h (fun d h=>?_) fun d h=>?_
 cases h
 exact rt 1 [] a
 refine cD 1 [] h (fun f h=>?_) fun f h=>?_
 cases h
 exact rt 1 [] a
 refine cD 1 [] h (fun k h=>?_) fun k h=>?_
 cases h
 exact rt 1 [] a
 cases h
 exact rt 1 [] a
 refine cD 0 [] e1 (fun g e1=>?_) fun g e1=>?_
 exact mJ 0 [] (b _ (oj e1))
 exact mJ 1 [] (b _ (oj e1))
 refine cD 0 [] e (fun i e=>?_) fun i e=>?_
 exact mJ 0 [] (hJ _ (oj e))
 refine cD 1 [] e (fun j e=>?_) fun j e=>?_
 exact mJ 0 [] (hJ _ (oj e))
 exact mJ 1 [] (hJ _ (oj e))
theorem Br (s:(List Aa))(s1:(List (ByteArray×Int)))(e:Int)(e1:Int)(e2:Å)(e3:(List Ah))(e4:Int)(o_:Int)(o_1:Å)(o_2:(List Int))(o_3:Int)(o_4:Do)(p:Int)(p1:Int)(x:Int)(r:(Int×Aa×Ak))(h:AR s s1 e e1 e2 e3 e4 o_ o_1 o_2 o_3 o_4 p p1 x=some r):I2 Tryz.prog 65 [iP x,.ptr 1 0] [[hO s,.vmp (M7 s1)],[iP e,iP e1,tP e2,hX e3,iP e4],[iP o_,tP o_1,oI o_2,iP o_3,.fno (Le o_4) (JH o_4) (JX o_4)],[iP p,iP p1]] (.ret (.tup [iP r.1,.agg [iP r.2.1.op,tP r.2.1.name,hI r.2.1.args,iP r.2.1.kind,.fno (Le r.2.1.do_) (JH r.2.1.do_) (JX r.2.1.do_)],.agg [iP r.2.2.At,iP r.2.2.E]])) [[hO s,.vmp (M7 s1)],[iP e,iP e1,tP e2,hX e3,iP e4],[iP o_,tP o_1,oI o_2,iP o_3,.fno (Le o_4) (JH o_4) (JX o_4)],[iP p,iP p1]]:=by
 unfold AR at h
 refine vS ⟨[0,1,3,4,5],[(1,[9999,1,4,0,1,2,3,4,5,6,7])]⟩ Tryz.func65 follows fun Q a=>?_
 cases h
 exact rt 2 [] a
theorem Nd (n:Nat)(s1:(List Int))(s2:(List Int))(r:Bool)(h:D0 n s1 s2=some r):Cz Tryz.prog 67 [hI s1,hI s2] (bP r):=by
 unfold D0 at h
 refine vP ⟨[0,1,4,5,10,12,13,14,24],[]⟩ Tryz.func67 follows fun Q a=>?_
 refine cD 2 [(2,fl A7 s1),(1,fl A7 s2)] h (fun b h=>?_) fun b h=>?_
 cases h
 exact rt 1 [] a
 refine mI 1 [(1,fl A7 s1)] h (fun _=>⟨[(4,bP false)],[]⟩) ?_ fun y e h hJ=>?_
 rintro _ h
 cases h
 exact rt 1 [] a
 refine lF 1 [] (A:=Int) (fun n v13=>BP n s1 s2 v13) (fun v13=>⟨[(0,hI s1),(1,hI s2),(4,bP false),(12,iP (s1.length:Int)),(13,iP v13)],[]⟩) 0 e (fun _=>rfl) ?_
 rintro n v13 e ih
 replace e:=(BP.eq_2 ..).symm.trans e
 refine cD 1 [] e (fun c e=>?_) fun c e=>?_
 obtain⟨x,f,e⟩:=Ac e
 obtain⟨x1,d,e⟩:=Ac e
 refine cD 3 [(4,fi A7 f),(3,fi A7 d)] e (fun g e=>?_) fun g e=>?_
 cases e
 cases h
 exact rt 1 [] a
 exact mJ 1 [] (ih _ e)
 exact mJ 1 [] (hJ _ (oj e))
theorem IU (n0:Nat)
 (ih_statute_solver_find:∀ m,m<=n0->∀ (s:Bn) (e:Ah) (r:(Int×Aa×Ak)),A5 m s e=some r->Cz Tryz.prog 40 [.agg [hO s.ops,.vmp (M7 s.names)],.agg (kX e)] (.tup [iP r.1,.agg [iP r.2.1.op,tP r.2.1.name,hI r.2.1.args,iP r.2.1.kind,.fno (Le r.2.1.do_) (JH r.2.1.do_) (JX r.2.1.do_)],.agg [iP r.2.2.At,iP r.2.2.E]]))
 (n:Nat) (hn:n<=n0) (s:Bn) (e:Ah) (r:(Int×Aa×Ak)) (h:A5 (n+1) s e=some r):Cz Tryz.prog 40 [.agg [hO s.ops,.vmp (M7 s.names)],.agg (kX e)] (.tup [iP r.1,.agg [iP r.2.1.op,tP r.2.1.name,hI r.2.1.args,iP r.2.1.kind,.fno (Le r.2.1.do_) (JH r.2.1.do_) (JX r.2.1.do_)],.agg [iP r.2.2.At,iP r.2.2.E]]):=by
 replace h:=(A5.eq_2 ..).symm.trans h
 refine vP ⟨[0,1,2,3,4,5,6,7,8,9,11,12,14,15,16,17,18,20,43,50,51,52,53,65,74,75,84,92,99,109,119,120,121,122,141,154,160,173],[(11,[9999,1,2,0,1,2,3,4]),(18,[9999,1,2,0,1,2,3,4]),(24,[9999,1,2,0,1,2,3,4,5]),(31,[9999,0,0,1,2,3,4,5,6,7,8,9,10]),(33,[9999,1,2,0,1,2,3,4,5,6])]⟩ Tryz.func40 follows fun Q d=>?_
 obtain⟨n_,I,h⟩:=Ac h
 refine mE 3 [(9,fk (Mo _ _ I))] h (fun v43=>⟨[(2,.ptr 0 0),(3,.ptr 1 0),(4,iP 0),(5,.ptr 2 0),(6,.ptr 3 0),(7,.fn 65 [.ptr 1 0]),(43,bP v43)],[[hO s.ops,.vmp (M7 s.names)],kX e,[iP 0,tP ⟨#[]⟩,.sl [] .own,iP 0,.fno (Le Do.nil) (JH Do.nil) (JX Do.nil)],[iP 0,iP 0]]⟩) ?_ fun y e1 hJ=>?_
 rintro v43 h
 refine cD 0 [] h (fun t h=>?_) fun t h=>?_
 obtain⟨f,hf,h⟩:=Ac h
 cases h
 exact rt 1 [(1,fs (Br _ _ _ _ _ _ _ _ _ _ _ _ _ _ _ _ hf))] d
 refine mI 2 [(3,fl BQ e.Kids)] h (fun types=>⟨[(2,.ptr 0 0),(3,.ptr 1 0),(4,iP 0),(5,.ptr 2 0),(6,.ptr 3 0),(7,.fn 65 [.ptr 1 0]),(9,oI types)],[[hO s.ops,.vmp (M7 s.names)],kX e,[iP 0,tP ⟨#[]⟩,.sl [] .own,iP 0,.fno (Le Do.nil) (JH Do.nil) (JX Do.nil)],[iP 0,iP 0]]⟩) ?_ fun y1 e2 h J=>?_
 rintro types h
 refine cD 3 [] h (fun u h=>?_) fun u h=>?_
 refine mE 0 [] h (fun v84=>⟨[(2,.ptr 0 0),(3,.ptr 1 0),(4,iP 0),(5,.ptr 2 0),(6,.ptr 3 0),(7,.fn 65 [.ptr 1 0]),(9,oI types),(84,bP v84)],[[hO s.ops,.vmp (M7 s.names)],kX e,[iP 0,tP ⟨#[]⟩,.sl [] .own,iP 0,.fno (Le Do.nil) (JH Do.nil) (JX Do.nil)],[iP 0,iP 0]]⟩) ?_ fun y2 e3 v=>?_
 rintro v84 h
 refine cD 0 [] h (fun hc h=>?_) fun hc h=>?_
 obtain⟨f1,K,h⟩:=Ac h
 cases h
 exact rt 1 [(1,fs (Br _ _ _ _ _ _ _ _ _ _ _ _ _ _ _ _ K))] d
 cases h
 exact rt 1 [] d
 rcases Ao e3 with⟨j,e3⟩|⟨j,e3⟩
 exact mJ 1 [(3,fo j)] (v _ (oj e3))
 exact mJ 1 [(3,fo j)] (v _ (oj e3))
 refine cD 1 [] h (fun w h=>?_) fun w h=>?_
 obtain⟨f2,L,h⟩:=Ac h
 cases h
 exact rt 1 [(1,fs (Br _ _ _ _ _ _ _ _ _ _ _ _ _ _ _ _ L))] d
 refine cD 1 [] h (fun z h=>?_) fun z h=>?_
 refine cD 2 [(4,fLS s.names e.S)] h (fun M h=>?_) fun M h=>?_
 cases h
 exact rt 1 [] d
 obtain⟨f3,N,h⟩:=Ac h
 cases h
 exact rt 1 [(1,fs (Br _ _ _ _ _ _ _ _ _ _ _ _ _ _ _ _ N))] d
 refine mI 2 [(4,fl GU s.ops)] h (fun (known,fits)=>⟨[(3,.ptr 1 0),(4,iP 0),(5,.ptr 2 0),(6,.ptr 3 0),(7,.fn 65 [.ptr 1 0]),(17,bP known),(18,bP fits)],[[hO s.ops,.vmp (M7 s.names)],kX e,[iP 0,tP ⟨#[]⟩,.sl [] .own,iP 0,.fno (Le Do.nil) (JH Do.nil) (JX Do.nil)],[iP 0,iP 0]]⟩) ?_ fun y3 e4 h O=>?_
 rintro⟨known,fits⟩ h
 refine mE 1 [] h (fun v160=>⟨[(3,.ptr 1 0),(4,iP 0),(5,.ptr 2 0),(6,.ptr 3 0),(7,.fn 65 [.ptr 1 0]),(18,bP fits),(160,bP v160)],[[hO s.ops,.vmp (M7 s.names)],kX e,[iP 0,tP ⟨#[]⟩,.sl [] .own,iP 0,.fno (Le Do.nil) (JH Do.nil) (JX Do.nil)],[iP 0,iP 0]]⟩) ?_ fun y4 e5 B=>?_
 rintro v160 h
 refine cD 0 [] h (fun P h=>?_) fun P h=>?_
 obtain⟨f4,R,h⟩:=Ac h
 cases h
 exact rt 1 [(1,fs (Br _ _ _ _ _ _ _ _ _ _ _ _ _ _ _ _ R))] d
 refine mE 0 [] h (fun v173=>⟨[(4,iP 0),(5,.ptr 2 0),(6,.ptr 3 0),(7,.fn 65 [.ptr 1 0]),(173,bP v173)],[[hO s.ops,.vmp (M7 s.names)],kX e,[iP 0,tP ⟨#[]⟩,.sl [] .own,iP 0,.fno (Le Do.nil) (JH Do.nil) (JX Do.nil)],[iP 0,iP 0]]⟩) ?_ fun y5 e6 C=>?_
 rintro v173 h
 refine cD 0 [] h (fun T h=>?_) fun T h=>?_
 obtain⟨f5,U,h⟩:=Ac h
 cases h
 exact rt 1 [(1,fs (Br _ _ _ _ _ _ _ _ _ _ _ _ _ _ _ _ U))] d
 obtain⟨f6,V,h⟩:=Ac h
 cases h
 exact rt 1 [(1,fs (Br _ _ _ _ _ _ _ _ _ _ _ _ _ _ _ _ V))] d
 rcases Ao e6 with⟨k,e6⟩|⟨k,e6⟩
 exact mJ 1 [(3,fo k)] (C _ (oj e6))
 exact mJ 1 [(3,fo k)] (C _ (oj e6))
 rcases Ao e5 with⟨o,e5⟩|⟨o,e5⟩
 exact mJ 1 [(3,fo o)] (B _ (oj e5))
 exact mJ 1 [(3,fo o)] (B _ (oj e5))
 refine lR 1 [] (A:=(Bool×Bool×Int)) (fun n (known1,fits1,v121)=>AS n s e types known1 fits1 v121) (fun (known1,fits1,v121)=>⟨[(3,.ptr 1 0),(4,iP 0),(5,.ptr 2 0),(6,.ptr 3 0),(7,.fn 65 [.ptr 1 0]),(9,oI types),(17,bP known1),(18,bP fits1),(119,hO s.ops),(120,iP (s.ops.length:Int)),(121,iP v121)],[[hO s.ops,.vmp (M7 s.names)],kX e,[iP 0,tP ⟨#[]⟩,.sl [] .own,iP 0,.fno (Le Do.nil) (JH Do.nil) (JX Do.nil)],[iP 0,iP 0]]⟩) (false,false,0) hn e4 (fun _=>rfl) ?_
 rintro n ⟨known1,fits1,v121⟩ hn e4 ih
 replace e4:=(AS.eq_2 ..).symm.trans e4
 refine cD 1 [] e4 (fun D e4=>?_) fun D e4=>?_
 obtain⟨x,hx,e4⟩:=Ac e4
 refine mE 2 [(0,fi GU hx)] e4 (fun v141=>⟨[(3,.ptr 1 0),(4,iP 0),(5,.ptr 2 0),(6,.ptr 3 0),(7,.fn 65 [.ptr 1 0]),(9,oI types),(17,bP known1),(18,bP fits1),(20,.ptr 4 0),(119,hO s.ops),(120,iP (s.ops.length:Int)),(121,iP v121),(141,bP v141)],[[hO s.ops,.vmp (M7 s.names)],kX e,[iP 0,tP ⟨#[]⟩,.sl [] .own,iP 0,.fno (Le Do.nil) (JH Do.nil) (JX Do.nil)],[iP 0,iP 0],kO x]⟩) ?_ fun y6 e7 p=>?_
 rintro v141 e4
 refine cD 0 [] e4 (fun W e4=>?_) fun W e4=>?_
 exact mJ 2 [] (ih (_,_,_) e4)
 refine mE 0 [] e4 (fun fits2=>⟨[(3,.ptr 1 0),(4,iP 0),(5,.ptr 2 0),(6,.ptr 3 0),(7,.fn 65 [.ptr 1 0]),(9,oI types),(17,bP true),(18,bP fits2),(20,.ptr 4 0),(119,hO s.ops),(120,iP (s.ops.length:Int)),(121,iP v121)],[[hO s.ops,.vmp (M7 s.names)],kX e,[iP 0,tP ⟨#[]⟩,.sl [] .own,iP 0,.fno (Le Do.nil) (JH Do.nil) (JX Do.nil)],[iP 0,iP 0],kO x]⟩) ?_ fun y7 e8 F=>?_
 rintro fits2 e4
 obtain⟨e9,X,e4⟩:=Ac e4
 refine cD 1 [(3,fk (Nd _ _ _ _ X))] e4 (fun Y e4=>?_) fun Y e4=>?_
 cases e4
 cases h
 exact rt 1 [] d
 exact mJ 1 [] (ih (_,_,_) e4)
 rcases Ao e8 with⟨q,e8⟩|⟨q,e8⟩
 exact mJ 1 [(1,fo q)] (F _ (oj e8))
 exact mJ 1 [(1,fo q),(2,fl A7 x.args),(1,fl A7 types)] (F _ (oj e8))
 rcases Ao e7 with⟨b,e7⟩|⟨b,e7⟩
 exact mJ 1 [(5,fo b)] (p _ (oj e7))
 rcases Ao e7 with⟨g,e7⟩|⟨g,e7⟩
 exact mJ 1 [(5,fo b),(3,fo g)] (p _ (oj e7))
 exact mJ 1 [(5,fo b),(3,fo g)] (p _ (oj e7))
 exact mJ 1 [] (O _ (oj e4))
 refine lR 1 [] (A:=((List Int)×Int)) (fun n (types1,v52)=>Bt n e s types1 v52) (fun (types1,v52)=>⟨[(2,.ptr 0 0),(3,.ptr 1 0),(4,iP 0),(5,.ptr 2 0),(6,.ptr 3 0),(7,.fn 65 [.ptr 1 0]),(9,oI types1),(50,hX e.Kids),(51,iP (e.Kids.length:Int)),(52,iP v52)],[[hO s.ops,.vmp (M7 s.names)],kX e,[iP 0,tP ⟨#[]⟩,.sl [] .own,iP 0,.fno (Le Do.nil) (JH Do.nil) (JX Do.nil)],[iP 0,iP 0]]⟩) ([],0) hn e2 (fun _=>rfl) ?_
 rintro n ⟨types1,v52⟩ hn e2 Z
 replace e2:=(Bt.eq_2 ..).symm.trans e2
 refine cD 1 [] e2 (fun G e2=>?_) fun G e2=>?_
 obtain⟨x1,hx1,e2⟩:=Ac e2
 obtain⟨f7,hf7,e2⟩:=Ac e2
 refine cD 4 [(0,fi BQ hx1),(5,fk (ih_statute_solver_find _ hn _ _ _ hf7))] e2 (fun H e2=>?_) fun H e2=>?_
 cases e2
 cases h
 exact rt 1 [] d
 obtain⟨l,hl,e2⟩:=Ac e2
 obtain⟨l1,hl1,e2⟩:=Ac e2
 exact mJ 2 [(2,fB A7 hl),(0,fa A7 hl1)] (Z (_,_) e2)
 exact mJ 1 [] (J _ (oj e2))
 rcases Ao e1 with⟨a,e1⟩|⟨a,e1⟩
 exact mJ 1 [(3,fo a)] (hJ _ (oj e1))
 rcases Ao e1 with⟨c,e1⟩|⟨c,e1⟩
 exact mJ 1 [(3,fo a),(4,fo c)] (hJ _ (oj e1))
 rcases Ao e1 with⟨i,e1⟩|⟨i,e1⟩
 exact mJ 1 [(3,fo a),(4,fo c),(2,fo i),(2,fl BQ e.Kids)] (hJ _ (oj e1))
 exact mJ 1 [(3,fo a),(4,fo c),(2,fo i)] (hJ _ (oj e1))
theorem FI:∀ n:Nat,(∀ m,m<=n->∀ (s:Bn) (e:Ah) (r:(Int×Aa×Ak)),A5 m s e=some r->Cz Tryz.prog 40 [.agg [hO s.ops,.vmp (M7 s.names)],.agg (kX e)] (.tup [iP r.1,.agg [iP r.2.1.op,tP r.2.1.name,hI r.2.1.args,iP r.2.1.kind,.fno (Le r.2.1.do_) (JH r.2.1.do_) (JX r.2.1.do_)],.agg [iP r.2.2.At,iP r.2.2.E]]))
 |0=>(fun m hm s e r h=>by
  obtain rfl:m=0:=by omega
  exact absurd h (by simp [A5]))
 |n+1=>by
  have ih:=FI n
  exact fun m hm s e r h=>by
   cases m with
   |zero=>exact absurd h (by simp [A5])
   |succ m=>exact IU n (ih) m (by omega) s e _ h
theorem GN (n:Nat)(s:Bn)(e:Ah)(r:(Int×Aa×Ak))(h:A5 n s e=some r):Cz Tryz.prog 40 [.agg [hO s.ops,.vmp (M7 s.names)],.agg (kX e)] (.tup [iP r.1,.agg [iP r.2.1.op,tP r.2.1.name,hI r.2.1.args,iP r.2.1.kind,.fno (Le r.2.1.do_) (JH r.2.1.do_) (JX r.2.1.do_)],.agg [iP r.2.2.At,iP r.2.2.E]]) :=
 (FI n) n (Ü _) s e r h
end Go.Proofs.YtehfpameijkafaaGreatDoor
namespace Go.Proofs.YtehfpameijkafaaGreatDoor
open Go.RowKit Go.Q Go.Vl Go.Sp
set_option maxRecDepth 100000
set_option linter.unusedSimpArgs false
set_option maxHeartbeats 4000000
set_option linter.unusedVariables false
theorem ZK (n:Nat)(d:Do)(m:Ai)(x:List Int)(r:Int)(h:Gj n d m x=some r):Cz Tryz.prog (JH d) ([.agg (kM m),hI x]++JX d) (iP r):=by
 unfold Gj at h
 split at h
 . exact JT m x r h
 . exact JS m x r h
 . exact JR m x r h
 . exact JQ m x r h
 . exact JP m x r h
 . exact JO m x r h
 . exact JN m x r h
 . exact JM m x r h
 . exact JL m x r h
 . exact Jh m x r h
 . exact Jg m x r h
 . exact Jf m x r h
 . exact IX m x r h
 . exact IW m x r h
 . exact IV m x r h
 . exact Je n _ m x r h
 . exact HB m x r h
 . exact HA m x r h
 . exact H9 m x r h
 . exact H8 m x r h
 . exact H7 m x r h
 . exact H6 m x r h
 . cases h
theorem XI {n:Nat}{d:Do}{m:Ai}{x:List Int}{r:Int}(h:Gj n d m x=some r):Im Tryz.prog (JH d)=true:=by
 unfold Gj at h
 split at h
 . exact (by kernel_rfl)
 . exact (by kernel_rfl)
 . exact (by kernel_rfl)
 . exact (by kernel_rfl)
 . exact (by kernel_rfl)
 . exact (by kernel_rfl)
 . exact (by kernel_rfl)
 . exact (by kernel_rfl)
 . exact (by kernel_rfl)
 . exact (by kernel_rfl)
 . exact (by kernel_rfl)
 . exact (by kernel_rfl)
 . exact (by kernel_rfl)
 . exact (by kernel_rfl)
 . exact (by kernel_rfl)
 . exact (by kernel_rfl)
 . exact (by kernel_rfl)
 . exact (by kernel_rfl)
 . exact (by kernel_rfl)
 . exact (by kernel_rfl)
 . exact (by kernel_rfl)
 . exact (by kernel_rfl)
 . cases h
theorem I4 (n0:Nat)
 (ih_statute_solver_value:∀ m,m<=n0->∀ (s:Bn) (e:Ah) (m_:Ai) (r:Int),A4 m s e m_=some r->Cz Tryz.prog 42 [.agg [hO s.ops,.vmp (M7 s.names)],.agg (kX e),.agg (kM m_)] (iP r))
 (n:Nat) (hn:n<=n0) (s:Bn) (e:Ah) (m_:Ai) (r:Int) (h:A4 (n+1) s e m_=some r):Cz Tryz.prog 42 [.agg [hO s.ops,.vmp (M7 s.names)],.agg (kX e),.agg (kM m_)] (iP r):=by
 replace h:=(A4.eq_2 ..).symm.trans h
 refine vP ⟨[0,1,2,3,4,5,6,7,9,11,14,15,19,33,34,35,36],[]⟩ Tryz.func42 follows fun Q b=>?_
 refine cD 4 [] h (fun c h=>?_) fun c h=>?_
 cases h
 exact rt 1 [] b
 refine cD 1 [] h (fun g h=>?_) fun g h=>?_
 cases h
 exact rt 1 [(14,fLS [(⟨#[121,101,97,114]⟩,365),(⟨#[115,116,111,114,101,100]⟩,m_.d.Stored),(⟨#[110,101,118,101,114]⟩,41667),(⟨#[111,119,110,101,114]⟩,m_.d.Owner)] e.S)] b
 refine mE 2 [(3,fl BQ e.Kids)] h (fun x=>⟨[(3,.ptr 0 0),(4,.ptr 1 0),(5,.ptr 2 0),(6,iP 0),(7,oI x)],[[hO s.ops,.vmp (M7 s.names)],kX e,kM m_]⟩) ?_ fun y e1 hJ=>?_
 rintro x h
 obtain⟨f,o,h⟩:=Ac h
 obtain⟨d,p,h⟩:=Ac h
 obtain⟨r1,a,h⟩:=Ac h
 cases h
 exact rt 2 [(2,fk (GN _ _ _ _ o)),(10,ff p),(2,fv (XI a) (ZK _ _ _ _ _ a))] b
 refine lR 1 [] (A:=((List Int)×Int)) (fun n (x1,v35)=>Bg n e s m_ x1 v35) (fun (x1,v35)=>⟨[(3,.ptr 0 0),(4,.ptr 1 0),(5,.ptr 2 0),(6,iP 0),(7,oI x1),(33,hX e.Kids),(34,iP (e.Kids.length:Int)),(35,iP v35)],[[hO s.ops,.vmp (M7 s.names)],kX e,kM m_]⟩) ([],0) hn e1 (fun _=>rfl) ?_
 rintro n ⟨x1,v35⟩ hn e1 ih
 replace e1:=(Bg.eq_2 ..).symm.trans e1
 refine cD 1 [] e1 (fun q e1=>?_) fun q e1=>?_
 obtain⟨x2,i,e1⟩:=Ac e1
 obtain⟨v_,j,e1⟩:=Ac e1
 obtain⟨l,t,e1⟩:=Ac e1
 obtain⟨l1,k,e1⟩:=Ac e1
 exact mJ 4 [(0,fi BQ i),(7,fk (ih_statute_solver_value _ hn _ _ _ _ j)),(0,fB A7 t),(0,fa A7 k)] (ih (_,_) e1)
 exact mJ 1 [] (hJ _ (oj e1))
theorem F8:∀ n:Nat,(∀ m,m<=n->∀ (s:Bn) (e:Ah) (m_:Ai) (r:Int),A4 m s e m_=some r->Cz Tryz.prog 42 [.agg [hO s.ops,.vmp (M7 s.names)],.agg (kX e),.agg (kM m_)] (iP r))
 |0=>(fun m hm s e m_ r h=>by
  obtain rfl:m=0:=by omega
  exact absurd h (by simp [A4]))
 |n+1=>by
  have ih:=F8 n
  exact fun m hm s e m_ r h=>by
   cases m with
   |zero=>exact absurd h (by simp [A4])
   |succ m=>exact I4 n (ih) m (by omega) s e m_ _ h
theorem JK (n:Nat)(s:Bn)(e:Ah)(m_:Ai)(r:Int)(h:A4 n s e m_=some r):Cz Tryz.prog 42 [.agg [hO s.ops,.vmp (M7 s.names)],.agg (kX e),.agg (kM m_)] (iP r) :=
 (F8 n) n (Ü _) s e m_ r h
end Go.Proofs.YtehfpameijkafaaGreatDoor
namespace Go.Proofs.YtehfpameijkafaaGreatDoor
open Go.RowKit Go.Q Go.Vl Go.Sp
theorem Cq (e:Ah)(r:Int×Aa×Ak)(h:Hn e=some r):Cz Tryz.prog 40 [.agg [Bh,CO],.agg [iP e.Op,iP e.N,tP e.S,hP e.Kids Bk,iP e.At]] (.tup [iP r.1,.agg [iP r.2.1.op,tP r.2.1.name,hP r.2.1.args BG,iP r.2.1.kind,.fno (Le r.2.1.do_) (JH r.2.1.do_) (JX r.2.1.do_)],.agg [iP r.2.2.At,iP r.2.2.E]]):=by
 intro σ
 unfold Hn at h
 split at h
 . rename_i hs
   rw [<- Af h]
   refine VC.dis fun i=>?_
   obtain⟨n,a⟩:=(Sr (QZ i) e hs).get
   exact GN n ⟨opsOf (Ra i),C7⟩ e _ a σ
 . cases h
theorem SW (e:Ah)(m:Ai)(r:Int)(h:U3 e m=some r):Cz Tryz.prog 42 [.agg [Bh,CO],.agg [iP e.Op,iP e.N,tP e.S,hP e.Kids Bk,iP e.At],.agg [hP m.d.Facts Fu,iP m.d.Stored,iP m.d.Owner,iP m.known]] (iP r):=by
 intro σ
 unfold U3 at h
 split at h
 . rename_i hs
   rw [<- Af h]
   refine VC.dis fun i=>?_
   obtain⟨n,a⟩:=(OV (QZ i) m (Yw hs.2.2) e hs.1 hs.2.1).1.get
   exact JK n ⟨opsOf (Ra i),C7⟩ e m _ a σ
 . cases h
end Go.Proofs.YtehfpameijkafaaGreatDoor
namespace Go.Proofs.YtehfpameijkafaaGreatDoor
open Go.RowKit Go.Q Go.Vl Go.Sp
set_option maxRecDepth 100000
set_option linter.unusedSimpArgs false
set_option maxHeartbeats 4000000
set_option linter.unusedVariables false
theorem Kf (n:Nat)(d:Ap)(known:Int)(r:Int)(h:Ez n d known=some r):Cz Tryz.prog 41 [.agg (kD d),iP known] (iP r):=by
 unfold Ez at h
 refine vP ⟨[0,1,2,4,6,10,12,13,14,15,55,82],[]⟩ Tryz.func41 follows fun Q v=>?_
 refine cD 2 [(4,fl BC d.Facts)] h (fun t h=>?_) fun t h=>?_
 cases h
 exact rt 1 [] v
 refine mI 1 [(2,fl BC d.Facts)] h (fun _=>⟨[(1,iP known),(2,.ptr 0 0),(4,iP 0)],[kD d]⟩) ?_ fun y e h hJ=>?_
 rintro _ h
 refine mE 0 [] h (fun v82=>⟨[(4,iP 0),(82,bP v82)],[kD d]⟩) ?_ fun y1 e1 l=>?_
 rintro v82 h
 refine cD 0 [] h (fun z h=>?_) fun z h=>?_
 cases h
 exact rt 1 [] v
 cases h
 exact rt 1 [] v
 rcases Ao e1 with⟨i,e1⟩|⟨i,e1⟩
 exact mJ 1 [(3,fo i)] (l _ (oj e1))
 rcases Ao e1 with⟨m,e1⟩|⟨m,e1⟩
 exact mJ 1 [(3,fo i),(4,fo m)] (l _ (oj e1))
 rcases Ao e1 with⟨o,e1⟩|⟨o,e1⟩
 exact mJ 1 [(3,fo i),(4,fo m),(3,fo o)] (l _ (oj e1))
 rcases Ao e1 with⟨q,e1⟩|⟨q,e1⟩
 exact mJ 1 [(3,fo i),(4,fo m),(3,fo o),(3,fo q)] (l _ (oj e1))
 rcases Ao e1 with⟨s,e1⟩|⟨s,e1⟩
 exact mJ 1 [(3,fo i),(4,fo m),(3,fo o),(3,fo q),(4,fo s)] (l _ (oj e1))
 exact mJ 1 [(3,fo i),(4,fo m),(3,fo o),(3,fo q),(4,fo s)] (l _ (oj e1))
 refine lF 1 [] (A:=Int) (fun n v14=>BT n d v14) (fun v14=>⟨[(1,iP known),(2,.ptr 0 0),(4,iP 0),(12,hZ d.Facts),(13,iP (d.Facts.length:Int)),(14,iP v14)],[kD d]⟩) 0 e (fun _=>rfl) ?_
 rintro n v14 e ih
 replace e:=(BT.eq_2 ..).symm.trans e
 refine cD 1 [] e (fun u e=>?_) fun u e=>?_
 obtain⟨x,B,e⟩:=Ac e
 refine mE 2 [(0,fi BC B)] e (fun v55=>⟨[(1,iP known),(2,.ptr 0 0),(4,iP 0),(12,hZ d.Facts),(13,iP (d.Facts.length:Int)),(14,iP v14),(55,bP v55)],[kD d,kZ x]⟩) ?_ fun y2 e2 c=>?_
 rintro v55 e
 refine cD 0 [] e (fun w e=>?_) fun w e=>?_
 cases e
 cases h
 exact rt 1 [] v
 exact mJ 1 [] (ih _ e)
 rcases Ao e2 with⟨b,e2⟩|⟨b,e2⟩
 exact mJ 1 [(3,fo b)] (c _ (oj e2))
 rcases Ao e2 with⟨f,e2⟩|⟨f,e2⟩
 exact mJ 1 [(3,fo b),(4,fo f)] (c _ (oj e2))
 rcases Ao e2 with⟨j,e2⟩|⟨j,e2⟩
 exact mJ 1 [(3,fo b),(4,fo f),(4,fo j)] (c _ (oj e2))
 rcases Ao e2 with⟨a,e2⟩|⟨a,e2⟩
 exact mJ 1 [(3,fo b),(4,fo f),(4,fo j),(4,fo a)] (c _ (oj e2))
 rcases Ao e2 with⟨g,e2⟩|⟨g,e2⟩
 exact mJ 1 [(3,fo b),(4,fo f),(4,fo j),(4,fo a),(4,fo g)] (c _ (oj e2))
 rcases Ao e2 with⟨k,e2⟩|⟨k,e2⟩
 exact mJ 1 [(3,fo b),(4,fo f),(4,fo j),(4,fo a),(4,fo g),(4,fo k)] (c _ (oj e2))
 rcases Ao e2 with⟨p,e2⟩|⟨p,e2⟩
 exact mJ 1 [(3,fo b),(4,fo f),(4,fo j),(4,fo a),(4,fo g),(4,fo k),(4,fo p)] (c _ (oj e2))
 exact mJ 1 [(3,fo b),(4,fo f),(4,fo j),(4,fo a),(4,fo g),(4,fo k),(4,fo p)] (c _ (oj e2))
 exact mJ 1 [] (hJ _ (oj e))
theorem Mp (c:Int)(r:Bool)(h:DU c=some r):Cz Tryz.prog 63 [uP c] (bP r):=by
 unfold DU at h
 refine vP ⟨[0,2],[]⟩ Tryz.func63 follows fun Q s=>?_
 refine mE 1 [] h (fun v2=>⟨[(2,bP v2)],[]⟩) ?_ fun y e hJ=>?_
 rintro v2 h
 cases h
 exact rt 0 [] s
 rcases Ao e with⟨f,e⟩|⟨f,e⟩
 rcases Ao e with⟨a,e⟩|⟨a,e⟩
 exact mJ 1 [(2,fo f),(3,fo a)] (hJ _ (oj e))
 rcases Ao e with⟨b,e⟩|⟨b,e⟩
 rcases Ao e with⟨j,e⟩|⟨j,e⟩
 exact mJ 1 [(2,fo f),(3,fo a),(2,fo b),(4,fo j)] (hJ _ (oj e))
 rcases Ao e with⟨n,e⟩|⟨n,e⟩
 exact mJ 1 [(2,fo f),(3,fo a),(2,fo b),(4,fo j),(3,fo n)] (hJ _ (oj e))
 rcases Ao e with⟨p,e⟩|⟨p,e⟩
 exact mJ 1 [(2,fo f),(3,fo a),(2,fo b),(4,fo j),(3,fo n),(2,fo p)] (hJ _ (oj e))
 exact mJ 1 [(2,fo f),(3,fo a),(2,fo b),(4,fo j),(3,fo n),(2,fo p)] (hJ _ (oj e))
 rcases Ao e with⟨o,e⟩|⟨o,e⟩
 exact mJ 1 [(2,fo f),(3,fo a),(2,fo b),(8,fo o)] (hJ _ (oj e))
 rcases Ao e with⟨q,e⟩|⟨q,e⟩
 exact mJ 1 [(2,fo f),(3,fo a),(2,fo b),(8,fo o),(2,fo q)] (hJ _ (oj e))
 exact mJ 1 [(2,fo f),(3,fo a),(2,fo b),(8,fo o),(2,fo q)] (hJ _ (oj e))
 rcases Ao e with⟨d,e⟩|⟨d,e⟩
 rcases Ao e with⟨k,e⟩|⟨k,e⟩
 exact mJ 1 [(2,fo f),(6,fo d),(4,fo k)] (hJ _ (oj e))
 rcases Ao e with⟨g,e⟩|⟨g,e⟩
 exact mJ 1 [(2,fo f),(6,fo d),(4,fo k),(3,fo g)] (hJ _ (oj e))
 rcases Ao e with⟨l,e⟩|⟨l,e⟩
 exact mJ 1 [(2,fo f),(6,fo d),(4,fo k),(3,fo g),(2,fo l)] (hJ _ (oj e))
 exact mJ 1 [(2,fo f),(6,fo d),(4,fo k),(3,fo g),(2,fo l)] (hJ _ (oj e))
 rcases Ao e with⟨i,e⟩|⟨i,e⟩
 exact mJ 1 [(2,fo f),(6,fo d),(8,fo i)] (hJ _ (oj e))
 rcases Ao e with⟨m,e⟩|⟨m,e⟩
 exact mJ 1 [(2,fo f),(6,fo d),(8,fo i),(2,fo m)] (hJ _ (oj e))
 exact mJ 1 [(2,fo f),(6,fo d),(8,fo i),(2,fo m)] (hJ _ (oj e))
theorem Io (n:Nat)(s:(List Int))(r:Int)(h:CK n s=some r):Cz Tryz.prog 111 [hP s Iv,.fno true 63 []] (iP r):=by
 unfold CK at h
 refine vP ⟨[0,1,4,5,7,8,9,16],[]⟩ Tryz.func111 follows fun Q b=>?_
 refine mI 2 [(2,fl Ly s)] h (fun _=>⟨[(4,iP 0)],[]⟩) ?_ fun y e h hJ=>?_
 rintro _ h
 cases h
 exact rt 1 [] b
 refine lF 1 [] (A:=Int) (fun n v8=>AW n s v8) (fun v8=>⟨[(0,hP s Iv),(1,.fno true 63 []),(4,iP 0),(7,iP (s.length:Int)),(8,iP v8)],[]⟩) 0 e (fun _=>rfl) ?_
 rintro n v8 e ih
 replace e:=(AW.eq_2 ..).symm.trans e
 refine cD 1 [] e (fun a e=>?_) fun a e=>?_
 obtain⟨x,c,e⟩:=Ac e
 obtain⟨i,d,e⟩:=Ac e
 refine cD 3 [(5,fi Ly c),(1,fk (Mp _ _ d))] e (fun f e=>?_) fun f e=>?_
 cases e
 cases h
 exact rt 1 [] b
 exact mJ 1 [] (ih _ e)
 exact mJ 1 [] (hJ _ (oj e))
theorem HD (n:Nat)(s:(List Int))(r:Bool)(h:BV n s=some r):Cz Tryz.prog 62 [hP s Iv,.fno true 63 []] (bP r):=by
 unfold BV at h
 refine vP ⟨[0,1,4],[]⟩ Tryz.func62 follows fun Q a=>?_
 obtain⟨i,b,h⟩:=Ac h
 cases h
 exact rt 2 [(3,fk (Io _ _ _ b))] a
theorem Ot (n:Nat)(s:Å)(r:Bool)(h:Fe n s=some r):Cz Tryz.prog 36 [tP s] (bP r):=by
 unfold Fe at h
 refine vP ⟨[0,2,19],[(3,[9996,1])]⟩ Tryz.func36 follows fun Q j=>?_
 refine mE 1 [] h (fun v19=>⟨[(0,tP s),(2,bP false),(19,bP v19)],[]⟩) ?_ fun y e hJ=>?_
 rintro v19 h
 refine cD 0 [] h (fun i h=>?_) fun i h=>?_
 cases h
 exact rt 1 [] j
 obtain⟨b,hb,h⟩:=Ac h
 obtain⟨c,k,h⟩:=Ac h
 refine xV 1 [.no] (hP b Iv) [.call (bP c),.no,.no] ⟨[(2,bP (!c))],[]⟩ (And.intro True.intro (And.intro (Acp hb (fun _=>rfl)) (And.intro (HD n b c k) True.intro))) ?_
 cases h
 exact rt 0 [] j
 rcases Ao e with⟨a,e⟩|⟨a,e⟩
 exact mJ 1 [(2,fo a)] (hJ _ (oj e))
 rcases Ao e with⟨f,e⟩|⟨f,e⟩
 exact mJ 1 [(2,fo a),(4,fo f)] (hJ _ (oj e))
 obtain⟨c1,d,e⟩:=Ac e
 rcases Ao e with⟨g,e⟩|⟨g,e⟩
 exact mJ 1 [(2,fo a),(4,fo f),(1,fb d),(1,fo g),(1,fb d)] (hJ _ (oj e))
 exact mJ 1 [(2,fo a),(4,fo f),(1,fb d),(1,fo g)] (hJ _ (oj e))
theorem Ln (c:Å)(c1:Int)(c2:Int)(c3:Int)(c4:Int)(c5:Int)(c6:Å)(c7:(List Ah))(c8:Int)(c9:Int)(c10:Int)(c11:Å)(c12:(List Ah))(c13:Int)(c14:Int)(c15:Int)(c16:Å)(c17:(List Ah))(c18:Int)(c19:Int)(x:Ad)(r:Bool)(h:El c c1 c2 c3 c4 c5 c6 c7 c8 c9 c10 c11 c12 c13 c14 c15 c16 c17 c18 c19 x=some r):I2 Tryz.prog 38 [.agg (kC x),.ptr 1 0] [[Bh,CO],[tP c,iP c1,iP c2,iP c3,iP c4,iP c5,tP c6,hX c7,iP c8,iP c9,iP c10,tP c11,hX c12,iP c13,iP c14,iP c15,tP c16,hX c17,iP c18,iP c19]] (.ret (bP r)) [[Bh,CO],[tP c,iP c1,iP c2,iP c3,iP c4,iP c5,tP c6,hX c7,iP c8,iP c9,iP c10,tP c11,hX c12,iP c13,iP c14,iP c15,tP c16,hX c17,iP c18,iP c19]]:=by
 unfold El at h
 refine vS ⟨[0,1,2,3],[]⟩ Tryz.func38 follows fun Q a=>?_
 cases h
 exact rt 2 [] a
theorem HC (n:Nat)(c:Å)(c1:Int)(c2:Int)(c3:Int)(c4:Int)(c5:Int)(c6:Å)(c7:(List Ah))(c8:Int)(c9:Int)(c10:Int)(c11:Å)(c12:(List Ah))(c13:Int)(c14:Int)(c15:Int)(c16:Å)(c17:(List Ah))(c18:Int)(c19:Int)(s:(List Ad))(r:Int)(h:Cx n c c1 c2 c3 c4 c5 c6 c7 c8 c9 c10 c11 c12 c13 c14 c15 c16 c17 c18 c19 s=some r):I2 Tryz.prog 64 [hC s,.fn 38 [.ptr 1 0]] [[Bh,CO],[tP c,iP c1,iP c2,iP c3,iP c4,iP c5,tP c6,hX c7,iP c8,iP c9,iP c10,tP c11,hX c12,iP c13,iP c14,iP c15,tP c16,hX c17,iP c18,iP c19]] (.ret (iP r)) [[Bh,CO],[tP c,iP c1,iP c2,iP c3,iP c4,iP c5,tP c6,hX c7,iP c8,iP c9,iP c10,tP c11,hX c12,iP c13,iP c14,iP c15,tP c16,hX c17,iP c18,iP c19]]:=by
 unfold Cx at h
 refine vS ⟨[0,1,4,5,7,8,9,16],[]⟩ Tryz.func64 follows fun Q d=>?_
 refine mI 2 [(2,fl AZ s)] h (fun _=>⟨[(4,iP 0)],[[Bh,CO],[tP c,iP c1,iP c2,iP c3,iP c4,iP c5,tP c6,hX c7,iP c8,iP c9,iP c10,tP c11,hX c12,iP c13,iP c14,iP c15,tP c16,hX c17,iP c18,iP c19]]⟩) ?_ fun y e h hJ=>?_
 rintro _ h
 cases h
 exact rt 1 [] d
 refine lF 1 [] (A:=Int) (fun n v8=>AI n s c c1 c2 c3 c4 c5 c6 c7 c8 c9 c10 c11 c12 c13 c14 c15 c16 c17 c18 c19 v8) (fun v8=>⟨[(0,hC s),(1,.fn 38 [.ptr 1 0]),(4,iP 0),(7,iP (s.length:Int)),(8,iP v8)],[[Bh,CO],[tP c,iP c1,iP c2,iP c3,iP c4,iP c5,tP c6,hX c7,iP c8,iP c9,iP c10,tP c11,hX c12,iP c13,iP c14,iP c15,tP c16,hX c17,iP c18,iP c19]]⟩) 0 e (fun _=>rfl) ?_
 rintro n v8 e ih
 replace e:=(AI.eq_2 ..).symm.trans e
 refine cD 1 [] e (fun b e=>?_) fun b e=>?_
 obtain⟨x,f,e⟩:=Ac e
 obtain⟨c20,a,e⟩:=Ac e
 refine cD 3 [(5,fi AZ f),(1,fs (Ln _ _ _ _ _ _ _ _ _ _ _ _ _ _ _ _ _ _ _ _ _ _ a))] e (fun g e=>?_) fun g e=>?_
 cases e
 cases h
 exact rt 1 [] d
 exact mJ 1 [] (ih _ e)
 exact mJ 1 [] (hJ _ (oj e))
theorem GO (n:Nat)(c:Å)(c1:Int)(c2:Int)(c3:Int)(c4:Int)(c5:Int)(c6:Å)(c7:(List Ah))(c8:Int)(c9:Int)(c10:Int)(c11:Å)(c12:(List Ah))(c13:Int)(c14:Int)(c15:Int)(c16:Å)(c17:(List Ah))(c18:Int)(c19:Int)(s:(List Ad))(r:Bool)(h:BI n c c1 c2 c3 c4 c5 c6 c7 c8 c9 c10 c11 c12 c13 c14 c15 c16 c17 c18 c19 s=some r):I2 Tryz.prog 37 [hC s,.fn 38 [.ptr 1 0]] [[Bh,CO],[tP c,iP c1,iP c2,iP c3,iP c4,iP c5,tP c6,hX c7,iP c8,iP c9,iP c10,tP c11,hX c12,iP c13,iP c14,iP c15,tP c16,hX c17,iP c18,iP c19]] (.ret (bP r)) [[Bh,CO],[tP c,iP c1,iP c2,iP c3,iP c4,iP c5,tP c6,hX c7,iP c8,iP c9,iP c10,tP c11,hX c12,iP c13,iP c14,iP c15,tP c16,hX c17,iP c18,iP c19]]:=by
 unfold BI at h
 refine vS ⟨[0,1,4],[]⟩ Tryz.func37 follows fun Q b=>?_
 obtain⟨c20,a,h⟩:=Ac h
 cases h
 exact rt 2 [(3,fs (HC _ _ _ _ _ _ _ _ _ _ _ _ _ _ _ _ _ _ _ _ _ _ _ a))] b
theorem Mn (c:Å)(c1:Int)(c2:Int)(c3:Int)(c4:Int)(c5:Int)(c6:Å)(c7:(List Ah))(c8:Int)(c9:Int)(c10:Int)(c11:Å)(c12:(List Ah))(c13:Int)(c14:Int)(c15:Int)(c16:Å)(c17:(List Ah))(c18:Int)(c19:Int)(r:Unit)(h:Fs c c1 c2 c3 c4 c5 c6 c7 c8 c9 c10 c11 c12 c13 c14 c15 c16 c17 c18 c19=some r):I2 Tryz.prog 39 [.ptr 1 0] [[Bh,CO],[tP c,iP c1,iP c2,iP c3,iP c4,iP c5,tP c6,hX c7,iP c8,iP c9,iP c10,tP c11,hX c12,iP c13,iP c14,iP c15,tP c16,hX c17,iP c18,iP c19]] (.ret (.tup [.agg [.ptr 1 4,.ptr 1 9,.ptr 1 14],.agg [iP 2,iP 2,iP 3]])) [[Bh,CO],[tP c,iP c1,iP c2,iP c3,iP c4,iP c5,tP c6,hX c7,iP c8,iP c9,iP c10,tP c11,hX c12,iP c13,iP c14,iP c15,tP c16,hX c17,iP c18,iP c19]]:=by
 unfold Fs at h
 refine vS ⟨[0,2,3],[(1,[9999,0,0,1,2,3,4,5,6,7,8,9,10,11,12])]⟩ Tryz.func39 follows fun Q a=>?_
 cases h
 exact rt 2 [] a
theorem Kg (n:Nat)(l:(List Ad))(r:Int)(h:E0 n l=some r):Cz Tryz.prog 20 [hC l] (iP r):=by
 unfold E0 at h
 refine vP ⟨[0,2,3,4,5,6,7,8,9,10,11,13,16,18,19,20,21,28,33,39,48,93,94,95,109,116],[(20,[9995])]⟩ Tryz.func20 follows fun Q q=>?_
 refine cD 2 [(2,fl AZ l)] h (fun D h=>?_) fun D h=>?_
 cases h
 exact rt 1 [] q
 obtain⟨u,hu,h⟩:=Ac h
 refine mI 2 [(0,fk OS),(3,fl AZ l)] h (fun _=>⟨[(2,iP 0)],[[Bh,CO]]⟩) ?_ fun y e h hJ=>?_
 rintro _ h
 cases h
 exact rt 1 [] q
 refine lF 1 [] (A:=Int) (fun n v20=>C5 n l v20) (fun v20=>⟨[(0,hC l),(2,iP 0),(3,.ptr 0 0),(18,hC l),(19,iP (l.length:Int)),(20,iP v20)],[[Bh,CO]]⟩) 0 e (fun _=>rfl) ?_
 rintro n v20 e ih
 replace e:=(C5.eq_2 ..).symm.trans e
 refine cD 1 [] e (fun F e=>?_) fun F e=>?_
 obtain⟨x,Z,e⟩:=Ac e
 obtain⟨i,hi,e⟩:=Ac e
 refine cD 5 [(1,fi AZ Z),(10,fk (Ot _ _ _ hi))] e (fun G e=>?_) fun G e=>?_
 cases e
 cases h
 exact rt 1 [] q
 obtain⟨l1,S,e⟩:=Ac e
 obtain⟨c,hc,e⟩:=Ac e
 refine cD 1 [(2,fsl AZ S),(1,fs (GO _ _ _ _ _ _ _ _ _ _ _ _ _ _ _ _ _ _ _ _ _ _ _ hc))] e (fun H e=>?_) fun H e=>?_
 cases e
 cases h
 exact rt 1 [] q
 refine mE 0 [] e (fun v39=>⟨[(0,hC l),(2,iP 0),(3,.ptr 0 0),(5,.ptr 1 0),(6,bP (x.Kind == 3)),(18,hC l),(19,iP (l.length:Int)),(20,iP v20),(39,bP v39)],[[Bh,CO],kC x]⟩) ?_ fun y1 e1 I=>?_
 rintro v39 e
 refine cD 0 [] e (fun J e=>?_) fun J e=>?_
 cases e
 cases h
 exact rt 1 [] q
 refine mE 0 [] e (fun v48=>⟨[(0,hC l),(2,iP 0),(3,.ptr 0 0),(5,.ptr 1 0),(18,hC l),(19,iP (l.length:Int)),(20,iP v20),(48,bP v48)],[[Bh,CO],kC x]⟩) ?_ fun y2 e2 k=>?_
 rintro v48 e
 refine cD 0 [] e (fun K e=>?_) fun K e=>?_
 cases e
 cases h
 exact rt 1 [] q
 obtain⟨w,hw,e⟩:=Ac e
 refine mI 2 [(0,fs (Mn _ _ _ _ _ _ _ _ _ _ _ _ _ _ _ _ _ _ _ _ _ hw))] e (fun _=>⟨[(0,hC l),(2,iP 0),(3,.ptr 0 0),(18,hC l),(19,iP (l.length:Int)),(20,iP v20)],[[Bh,CO],kC x,[.ptr 1 4,.ptr 1 9,.ptr 1 14],[iP 2,iP 2,iP 3]]⟩) ?_ fun y3 e3 e T=>?_
 rintro _ e
 exact mJ 1 [] (ih _ e)
 refine lF 1 [] (A:=Int) (fun n v94=>AB n x v94) (fun v94=>⟨[(0,hC l),(2,iP 0),(3,.ptr 0 0),(8,.ptr 3 0),(18,hC l),(19,iP (l.length:Int)),(20,iP v20),(93,.agg [.ptr 1 4,.ptr 1 9,.ptr 1 14]),(94,iP v94)],[[Bh,CO],kC x,[.ptr 1 4,.ptr 1 9,.ptr 1 14],[iP 2,iP 2,iP 3]]⟩) 0 e3 (fun _=>rfl) ?_
 rintro n v94 e3 C
 replace e3:=(AB.eq_2 ..).symm.trans e3
 replace e3:=Ao e3
 rcases e3 with⟨L,e3⟩|⟨L,e3⟩
 obtain rfl:=NJ L
 obtain⟨f2,s,e3⟩:=Ac e3
 refine wl 4 [] ?_
 refine xE 6 [.no,.no,.no,.no,.call (.tup [iP f2.1,.agg [iP f2.2.1.op,tP f2.2.1.name,hI f2.2.1.args,iP f2.2.1.kind,.fno (Le f2.2.1.do_) (JH f2.2.1.do_) (JX f2.2.1.do_)],.agg [iP f2.2.2.At,iP f2.2.2.E]]),.no,.no,.no,.no,.no,.no,.no,.no,.no] ⟨[(0,hC l),(2,iP 0),(3,.ptr 0 0),(8,.ptr 3 0),(9,iP 0),(11,iP f2.1),(13,.ptr 5 0),(18,hC l),(19,iP (l.length:Int)),(20,iP v20),(93,.agg [.ptr 1 4,.ptr 1 9,.ptr 1 14]),(94,iP 0)],[[Bh,CO],kC x,[.ptr 1 4,.ptr 1 9,.ptr 1 14],[iP 2,iP 2,iP 3],[iP f2.2.1.op,tP f2.2.1.name,hI f2.2.1.args,iP f2.2.1.kind,.fno (Le f2.2.1.do_) (JH f2.2.1.do_) (JX f2.2.1.do_)],[iP f2.2.2.At,iP f2.2.2.E]]⟩ (And.intro (And.intro (Cq x.From f2 s) (And.intro True.intro (And.intro (And.intro True.intro True.intro) True.intro))) (And.intro (And.intro (And.intro (Cq x.From f2 s) True.intro) (And.intro (And.intro (Cq x.From f2 s) True.intro) True.intro)) (And.intro (And.intro (And.intro (Cq x.From f2 s) (And.intro True.intro True.intro)) (And.intro (And.intro (Cq x.From f2 s) True.intro) True.intro)) True.intro))) ?_
 refine cD 1 [] e3 (fun M e3=>?_) fun M e3=>?_
 cases e3
 cases e
 cases h
 exact rt 1 [] q
 refine cD 1 [] e3 (fun U e3=>?_) fun U e3=>?_
 cases e3
 cases e
 cases h
 exact rt 1 [] q
 exact mJ 1 [] (C _ e3)
 replace e3:=Ao e3
 rcases e3 with⟨N,e3⟩|⟨N,e3⟩
 obtain rfl:=NJ N
 obtain⟨f1,t,e3⟩:=Ac e3
 refine wl 4 [] ?_
 refine xE 6 [.no,.no,.no,.no,.call (.tup [iP f1.1,.agg [iP f1.2.1.op,tP f1.2.1.name,hI f1.2.1.args,iP f1.2.1.kind,.fno (Le f1.2.1.do_) (JH f1.2.1.do_) (JX f1.2.1.do_)],.agg [iP f1.2.2.At,iP f1.2.2.E]]),.no,.no,.no,.no,.no,.no,.no,.no,.no] ⟨[(0,hC l),(2,iP 0),(3,.ptr 0 0),(8,.ptr 3 0),(9,iP 1),(11,iP f1.1),(13,.ptr 5 0),(18,hC l),(19,iP (l.length:Int)),(20,iP v20),(93,.agg [.ptr 1 4,.ptr 1 9,.ptr 1 14]),(94,iP 1)],[[Bh,CO],kC x,[.ptr 1 4,.ptr 1 9,.ptr 1 14],[iP 2,iP 2,iP 3],[iP f1.2.1.op,tP f1.2.1.name,hI f1.2.1.args,iP f1.2.1.kind,.fno (Le f1.2.1.do_) (JH f1.2.1.do_) (JX f1.2.1.do_)],[iP f1.2.2.At,iP f1.2.2.E]]⟩ (And.intro (And.intro (Cq x.To f1 t) (And.intro True.intro (And.intro (And.intro True.intro True.intro) True.intro))) (And.intro (And.intro (And.intro (Cq x.To f1 t) True.intro) (And.intro (And.intro (Cq x.To f1 t) True.intro) True.intro)) (And.intro (And.intro (And.intro (Cq x.To f1 t) (And.intro True.intro True.intro)) (And.intro (And.intro (Cq x.To f1 t) True.intro) True.intro)) True.intro))) ?_
 refine cD 1 [] e3 (fun V e3=>?_) fun V e3=>?_
 cases e3
 cases e
 cases h
 exact rt 1 [] q
 refine cD 1 [] e3 (fun W e3=>?_) fun W e3=>?_
 cases e3
 cases e
 cases h
 exact rt 1 [] q
 exact mJ 1 [] (C _ e3)
 replace e3:=Ao e3
 rcases e3 with⟨O,e3⟩|⟨O,e3⟩
 obtain rfl:=NJ O
 obtain⟨f,P,e3⟩:=Ac e3
 refine wl 4 [] ?_
 refine xE 6 [.no,.no,.no,.no,.call (.tup [iP f.1,.agg [iP f.2.1.op,tP f.2.1.name,hI f.2.1.args,iP f.2.1.kind,.fno (Le f.2.1.do_) (JH f.2.1.do_) (JX f.2.1.do_)],.agg [iP f.2.2.At,iP f.2.2.E]]),.no,.no,.no,.no,.no,.no,.no,.no,.no] ⟨[(0,hC l),(2,iP 0),(3,.ptr 0 0),(8,.ptr 3 0),(9,iP 2),(11,iP f.1),(13,.ptr 5 0),(18,hC l),(19,iP (l.length:Int)),(20,iP v20),(93,.agg [.ptr 1 4,.ptr 1 9,.ptr 1 14]),(94,iP 2)],[[Bh,CO],kC x,[.ptr 1 4,.ptr 1 9,.ptr 1 14],[iP 2,iP 2,iP 3],[iP f.2.1.op,tP f.2.1.name,hI f.2.1.args,iP f.2.1.kind,.fno (Le f.2.1.do_) (JH f.2.1.do_) (JX f.2.1.do_)],[iP f.2.2.At,iP f.2.2.E]]⟩ (And.intro (And.intro (Cq x.When f P) (And.intro True.intro (And.intro (And.intro True.intro True.intro) True.intro))) (And.intro (And.intro (And.intro (Cq x.When f P) True.intro) (And.intro (And.intro (Cq x.When f P) True.intro) True.intro)) (And.intro (And.intro (And.intro (Cq x.When f P) (And.intro True.intro True.intro)) (And.intro (And.intro (Cq x.When f P) True.intro) True.intro)) True.intro))) ?_
 refine cD 1 [] e3 (fun X e3=>?_) fun X e3=>?_
 cases e3
 cases e
 cases h
 exact rt 1 [] q
 refine cD 1 [] e3 (fun Y e3=>?_) fun Y e3=>?_
 cases e3
 cases e
 cases h
 exact rt 1 [] q
 exact mJ 1 [] (C _ e3)
 replace e3:=Ao e3
 rcases e3 with⟨R,e3⟩|⟨R,e3⟩
 obtain rfl:=NJ R
 exact mJ 3 [] (T _ (oj e3))
 cases e3
 rcases Ao e2 with⟨a,e2⟩|⟨a,e2⟩
 exact mJ 1 [(3,fo a)] (k _ (oj e2))
 rcases Ao e2 with⟨b,e2⟩|⟨b,e2⟩
 exact mJ 1 [(3,fo a),(4,fo b)] (k _ (oj e2))
 rcases Ao e2 with⟨d,e2⟩|⟨d,e2⟩
 exact mJ 1 [(3,fo a),(4,fo b),(4,fo d)] (k _ (oj e2))
 rcases Ao e2 with⟨g,e2⟩|⟨g,e2⟩
 exact mJ 1 [(3,fo a),(4,fo b),(4,fo d),(4,fo g)] (k _ (oj e2))
 rcases Ao e2 with⟨j,e2⟩|⟨j,e2⟩
 rcases Ao e2 with⟨m,e2⟩|⟨m,e2⟩
 exact mJ 1 [(3,fo a),(4,fo b),(4,fo d),(4,fo g),(2,fo j),(5,fo m)] (k _ (oj e2))
 rcases Ao e2 with⟨o,e2⟩|⟨o,e2⟩
 rcases Ao e2 with⟨v,e2⟩|⟨v,e2⟩
 exact mJ 1 [(3,fo a),(4,fo b),(4,fo d),(4,fo g),(2,fo j),(5,fo m),(1,fo o),(3,fo v)] (k _ (oj e2))
 exact mJ 1 [(3,fo a),(4,fo b),(4,fo d),(4,fo g),(2,fo j),(5,fo m),(1,fo o),(3,fo v)] (k _ (oj e2))
 exact mJ 1 [(3,fo a),(4,fo b),(4,fo d),(4,fo g),(2,fo j),(5,fo m),(1,fo o)] (k _ (oj e2))
 rcases Ao e2 with⟨p,e2⟩|⟨p,e2⟩
 rcases Ao e2 with⟨z,e2⟩|⟨z,e2⟩
 exact mJ 1 [(3,fo a),(4,fo b),(4,fo d),(4,fo g),(2,fo j),(7,fo p),(3,fo z)] (k _ (oj e2))
 exact mJ 1 [(3,fo a),(4,fo b),(4,fo d),(4,fo g),(2,fo j),(7,fo p),(3,fo z)] (k _ (oj e2))
 exact mJ 1 [(3,fo a),(4,fo b),(4,fo d),(4,fo g),(2,fo j),(7,fo p)] (k _ (oj e2))
 rcases Ao e1 with⟨B,e1⟩|⟨B,e1⟩
 exact mJ 1 [(3,fo B)] (I _ (oj e1))
 exact mJ 1 [(3,fo B)] (I _ (oj e1))
 exact mJ 1 [] (hJ _ (oj e))
theorem Q0 (n:Nat)(c:Ad)(d:Ap)(known:Int)(r:(Int×Int×Bool×Int))(h:Ft n c d known=some r):Cz Tryz.prog 21 [.agg (kC c),.agg (kD d),iP known] (.tup [iP r.1,iP r.2.1,bP r.2.2.1,iP r.2.2.2]):=by
 unfold Ft at h
 refine vP ⟨[0,1,2,3,4,6,7,8,9,10,11,12,13,18,24],[(7,[9995]),(8,[9999,0,0,1,2,3,5,6,7,8,10,11,12,13,4,9,14,15,16,17,18,19,20,21,22,23,24,25])]⟩ Tryz.func21 follows fun Q f=>?_
 obtain⟨l,o,h⟩:=Ac h
 obtain⟨e,p,h⟩:=Ac h
 refine cD 3 [(7,fB AZ o),(0,fk (Kg _ _ _ p))] h (fun g h=>?_) fun g h=>?_
 cases h
 exact rt 1 [] f
 obtain⟨e1,i,h⟩:=Ac h
 refine cD 2 [(2,fk (Kf _ _ _ _ i))] h (fun j h=>?_) fun j h=>?_
 cases h
 exact rt 1 [] f
 obtain⟨u,q,h⟩:=Ac h
 refine xE 6 [.call (.agg [Bh,CO]),.no,.no,.no,.no,.no,.no,.no] ⟨[(2,iP known),(3,.ptr 0 0),(6,iP 0),(7,iP 0),(8,bP false),(9,iP 0),(12,.ptr 2 0),(13,.ptr 3 0)],[kC c,kD d,[Bh,CO],[hZ d.Facts,iP d.Stored,iP d.Owner,iP known]]⟩ (And.intro (And.intro OS (And.intro True.intro (And.intro (And.intro True.intro True.intro) True.intro))) (And.intro (And.intro (And.intro OS True.intro) (And.intro (And.intro OS True.intro) True.intro)) (And.intro (And.intro (And.intro OS (And.intro True.intro True.intro)) (And.intro (And.intro OS True.intro) True.intro)) True.intro))) ?_
 refine mE 0 [] h (fun (from_,to_,applies)=>⟨[(6,iP from_),(7,iP to_),(8,bP applies),(9,iP 0)],[kC c,kD d,[Bh,CO],[hZ d.Facts,iP d.Stored,iP d.Owner,iP known]]⟩) ?_ fun y e2 hJ=>?_
 rintro⟨from_,to_,applies⟩ h
 cases h
 exact rt 0 [] f
 obtain⟨from_1,a,e2⟩:=Ac e2
 obtain⟨to_1,b,e2⟩:=Ac e2
 rcases Ao e2 with⟨k,e2⟩|⟨k,e2⟩
 obtain⟨v_,m,e2⟩:=Ac e2
 exact mJ 1 [(12,fk (SW _ _ _ a)),(0,fk (SW _ _ _ b)),(0,fo k),(4,fk (SW _ _ _ m))] (hJ _ (oj e2))
 exact mJ 1 [(12,fk (SW _ _ _ a)),(0,fk (SW _ _ _ b)),(0,fo k)] (hJ _ (oj e2))
end Go.Proofs.YtehfpameijkafaaGreatDoor
namespace Go.Proofs.YtehfpameijkafaaGreatDoor
open Go.RowKit Go.Q Go.Vl Go.Sp
set_option maxRecDepth 100000
set_option linter.unusedSimpArgs false
set_option maxHeartbeats 4000000
set_option linter.unusedVariables false
theorem HX (n:Nat)(l:(List Ad))(d:Ap)(known:Int)(r:((List Ae)×Int))(h:Cs n l d known=some r):Cz Tryz.prog 27 [hC l,.agg (kD d),iP known] (.tup [K4 r.1,iP r.2]):=by
 unfold Cs at h
 refine vP ⟨[0,1,2,3,4,6,7,8,9,10,11,12,13,14,15,20,26,28,29,30,31,44],[]⟩ Tryz.func27 follows fun Q a=>?_
 refine xZ 1 [] ?_
 refine xZ 0 [] ?_
 obtain⟨e,t,h⟩:=Ac h
 refine cD 2 [(1,fk (Kg _ _ _ t))] h (fun c h=>?_) fun c h=>?_
 cases h
 exact rt 1 [] a
 obtain⟨e1,f,h⟩:=Ac h
 refine cD 2 [(2,fk (Kf _ _ _ _ f))] h (fun g h=>?_) fun g h=>?_
 cases h
 exact rt 1 [] a
 refine wl 1 [] ?_
 refine pvX (.tmp 10) ?_
 refine mE 1 [(1,fl AZ l)] h (fun out=>⟨[(3,.vptr [hC l] 0),(6,.sl [] .own),(7,iP 0),(10,.prv (out.map Aj.vals))],[]⟩) ?_ fun y e2 hJ=>?_
 rintro out h
 replace h:=Ao h
 rcases h with⟨b,h⟩|⟨b,h⟩
 have q:=h
 obtain rfl:=Uf b
 have h:=q
 clear q
 refine poR Aj CA (.tmp 10) [] ?_
 cases h
 exact rt 2 [(2,fk (Ab9 l))] a
 refine thR Aj (.tmp 10) out _ rfl (IF b) fun cap m_ _ i=>?_
 obtain⟨l1,j,h⟩:=Ac h
 refine wl 1 [(2,fs (Hd _ _ _ _ cap m_ _ j))] ?_
 replace h:=Ao h
 rcases h with⟨k,h⟩|⟨k,h⟩
 refine unR Aj (.tmp 10) l1 0 out.length cap m_ (Hj k) (Ny (Hj k) (IF b)) i ?_
 refine poR Aj CA (.tmp 10) l1 ?_
 cases h
 exact rt 1 [] a
 cases h
 refine lF 1 [] (A:=((List Ae)×Int)) (fun n (out1,v30)=>Ce n l d known out1 v30) (fun (out1,v30)=>⟨[(2,iP known),(3,.vptr [hC l] 0),(4,.vptr (kD d) 0),(6,.sl [] .own),(7,iP 0),(10,.prv (out1.map Aj.vals)),(28,hC l),(29,iP (l.length:Int)),(30,iP v30)],[]⟩) ([],0) e2 (fun _=>rfl) ?_
 rintro n ⟨out1,v30⟩ e2 ih
 replace e2:=(Ce.eq_2 ..).symm.trans e2
 refine cD 1 [] e2 (fun m e2=>?_) fun m e2=>?_
 obtain⟨x,u,e2⟩:=Ac e2
 obtain⟨s,hs,e2⟩:=Ac e2
 refine cD 4 [(1,fi AZ u),(7,fk (Q0 _ _ _ _ _ hs))] e2 (fun o e2=>?_) fun o e2=>?_
 obtain⟨l2,p,e2⟩:=Ac e2
 exact mJ 2 [(6,fap Aj (by simp) p)] (ih (_,_) e2)
 exact mJ 1 [] (ih (_,_) e2)
 exact mJ 1 [] (hJ _ (oj e2))
end Go.Proofs.YtehfpameijkafaaGreatDoor
namespace Go.Proofs.YtehfpameijkafaaGreatDoor
open Go.RowKit Go.Q Go.Vl Go.Sp
set_option maxRecDepth 100000
set_option linter.unusedSimpArgs false
set_option maxHeartbeats 4000000
set_option linter.unusedVariables false
theorem FV (s:Ae)(day:Int)(r:Bool)(h:De s day=some r):Cz Tryz.prog 51 [.agg (kX6 s),iP day] (bP r):=by
 unfold De at h
 refine vP ⟨[0,1,2,4],[]⟩ Tryz.func51 follows fun Q b=>?_
 refine mE 1 [] h (fun v4=>⟨[(4,bP v4)],[kX6 s]⟩) ?_ fun y e hJ=>?_
 rintro v4 h
 cases h
 exact rt 0 [] b
 rcases Ao e with⟨a,e⟩|⟨a,e⟩
 exact mJ 1 [(4,fo a)] (hJ _ (oj e))
 exact mJ 1 [(4,fo a)] (hJ _ (oj e))
theorem Lp (h_:Int)(other:Int)(r:Int)(h:Dm h_ other=some r):Cz Tryz.prog 74 [iP h_,iP other] (iP r):=by
 unfold Dm at h
 refine vP ⟨[0,1,4,8],[]⟩ Tryz.func74 follows fun Q a=>?_
 refine cD 2 [] h (fun b h=>?_) fun b h=>?_
 cases h
 exact rt 1 [] a
 cases h
 exact rt 1 [] a
theorem SY (n:Nat)(l:(List Ad))(s:(List Ae))(day:Int)(r:Int)(h:HN n l s day=some r):Cz Tryz.prog 50 [hC l,K4 s,iP day] (iP r):=by
 unfold HN at h
 refine vP ⟨[0,1,2,6,7,8,9,10,11,12,13,17,43,64,71,77],[]⟩ Tryz.func50 follows fun Q D=>?_
 refine mI 3 [] h (fun out=>⟨[(6,iP 0),(7,iP out)],[]⟩) ?_ fun y e h hJ=>?_
 rintro out h
 cases h
 exact rt 1 [] D
 refine lF 1 [] (A:=(Int×Int)) (fun n (out1,i)=>Cd n s l day out1 i) (fun (out1,i)=>⟨[(0,hC l),(1,K4 s),(2,iP day),(6,iP 0),(7,iP out1),(8,iP i)],[]⟩) (4095,0) e (fun _=>rfl) ?_
 rintro n ⟨out1,i⟩ e ih
 replace e:=(Cd.eq_2 ..).symm.trans e
 refine cD 1 [(2,fl BF s)] e (fun o e=>?_) fun o e=>?_
 obtain⟨x,E,e⟩:=Ac e
 obtain⟨x1,p,e⟩:=Ac e
 refine mE 3 [(3,fi BF E),(2,fi AZ p)] e (fun (i1,common,some_)=>⟨[(0,hC l),(1,K4 s),(2,iP day),(6,iP 0),(7,iP out1),(8,iP i1),(10,iP common),(11,bP some_)],[]⟩) ?_ fun y1 e1 q=>?_
 rintro⟨i1,common,some_⟩ e
 refine mE 2 [] e (fun v71=>⟨[(0,hC l),(1,K4 s),(2,iP day),(6,iP 0),(7,iP out1),(8,iP i1),(10,iP common),(11,bP some_),(13,.fnb 74 [iP out1]),(71,bP v71)],[]⟩) ?_ fun y2 e2 f=>?_
 rintro v71 e
 refine cD 0 [] e (fun t e=>?_) fun t e=>?_
 cases e
 cases h
 exact rt 1 [] D
 refine cD 1 [] e (fun F e=>?_) fun F e=>?_
 obtain⟨out2,a,e⟩:=Ac e
 exact mJ 1 [(2,fk (Lp _ _ _ a))] (ih (_,_) e)
 exact mJ 0 [] (ih (_,_) e)
 rcases Ao e2 with⟨b,e2⟩|⟨b,e2⟩
 exact mJ 1 [(1,fo b)] (f _ (oj e2))
 exact mJ 1 [(1,fo b)] (f _ (oj e2))
 refine lF 1 [] (A:=(Int×Int×Bool)) (fun n (i2,common1,some_1)=>BS n s l x1 day i2 common1 some_1) (fun (i2,common1,some_1)=>⟨[(0,hC l),(1,K4 s),(2,iP day),(6,iP 0),(7,iP out1),(8,iP i2),(9,iP x1.Rank),(10,iP common1),(11,bP some_1)],[]⟩) (i,4095,false) e1 (fun _=>rfl) ?_
 rintro n ⟨i2,common1,some_1⟩ e1 g
 replace e1:=(BS.eq_2 ..).symm.trans e1
 refine mE 0 [] e1 (fun v43=>⟨[(0,hC l),(1,K4 s),(2,iP day),(6,iP 0),(7,iP out1),(8,iP i2),(9,iP x1.Rank),(10,iP common1),(11,bP some_1),(43,bP v43)],[]⟩) ?_ fun y3 e3 j=>?_
 rintro v43 e1
 refine cD 0 [] e1 (fun u e1=>?_) fun u e1=>?_
 obtain⟨x2,k,e1⟩:=Ac e1
 obtain⟨x3,v,e1⟩:=Ac e1
 refine mE 2 [(3,fi BF k),(2,fi AZ v)] e1 (fun v64=>⟨[(0,hC l),(1,K4 s),(2,iP day),(6,iP 0),(7,iP out1),(8,iP i2),(9,iP x1.Rank),(10,iP common1),(11,bP some_1),(12,.ptr 0 0),(64,bP v64)],[kC x3]⟩) ?_ fun y4 e4 m=>?_
 rintro v64 e1
 refine cD 0 [] e1 (fun w e1=>?_) fun w e1=>?_
 exact mJ 2 [] (g (_,_,_) e1)
 exact mJ 1 [] (g (_,_,_) e1)
 rcases Ao e4 with⟨c,e4⟩|⟨c,e4⟩
 obtain⟨a_,z,e4⟩:=Ac e4
 exact mJ 1 [(3,fo c),(2,fi BF k),(2,fk (FV _ _ _ z))] (m _ (oj e4))
 exact mJ 1 [(3,fo c)] (m _ (oj e4))
 exact mJ 1 [] (q _ (oj e1))
 rcases Ao e3 with⟨d,e3⟩|⟨d,e3⟩
 obtain⟨x4,B,e3⟩:=Ac e3
 obtain⟨x5,C,e3⟩:=Ac e3
 exact mJ 1 [(2,fl BF s),(1,fo d),(3,fi BF B),(2,fi AZ C)] (j _ (oj e3))
 exact mJ 1 [(2,fl BF s),(1,fo d)] (j _ (oj e3))
 exact mJ 1 [] (hJ _ (oj e))
theorem C0 (n:Nat)(l:(List Ad))(s:(List Ae))(day:Int)(r:B0)(h:Ik n l s day=some r):Cz Tryz.prog 28 [hC l,K4 s,iP day] (.agg (Sl r)):=by
 unfold Ik at h
 refine vP ⟨[0,1,2,6,7,8,10,11,17,18,19,20,42,52,59],[]⟩ Tryz.func28 follows fun Q v=>?_
 obtain⟨w,B,h⟩:=Ac h
 refine wl 2 [(4,fk (SY _ _ _ _ _ B))] ?_
 refine pvX (.cell 1 2) ?_
 refine mE 2 [(2,fl BF s)] h (fun (out,out1)=>⟨[(6,.ptr 0 0),(7,.ptr 1 0)],[[iP 0,iP 0,.sl [] .own],[iP out,iP w,.prv (out1.map EH.vals)]]⟩) ?_ fun y e hJ=>?_
 rintro⟨out,out1⟩ h
 replace h:=Ao h
 rcases h with⟨i,h⟩|⟨i,h⟩
 have z:=h
 obtain rfl:=Uf i
 have h:=z
 clear z
 refine poR EH BG (.cell 1 2) [] ?_
 cases h
 exact rt 2 [(2,fk ZG)] v
 refine thR EH (.cell 1 2) out1 _ rfl (IF i) fun cap m_ _ j=>?_
 obtain⟨data,c,h⟩:=Ac h
 refine wl 1 [(2,fs (XS (σ:=[[iP 0,iP 0,.sl [] .own],[iP out,iP w,.asl 2 0 out1.length cap],Dn (out1.map EH.vals) m_]) (b:=2) (cap:=cap) (e:=m_) c rfl))] ?_
 replace h:=Ao h
 rcases h with⟨k,h⟩|⟨k,h⟩
 refine unR EH (.cell 1 2) data 2 out1.length cap m_ (Hj k) (Ny (Hj k) (IF i)) j ?_
 refine poR EH BG (.cell 1 2) data ?_
 cases h
 exact rt 1 [] v
 cases h
 refine lF 1 [] (A:=(Int×Int×Int×(List Int))) (fun n (rank,v19,out2,out3)=>C8 n s l day rank v19 out2 out3) (fun (rank,v19,out2,out3)=>⟨[(0,hC l),(2,iP day),(6,.ptr 0 0),(7,.ptr 1 0),(8,iP rank),(17,K4 s),(18,iP (s.length:Int)),(19,iP v19)],[[iP 0,iP 0,.sl [] .own],[iP out2,iP w,.prv (out3.map EH.vals)]]⟩) (-1,0,0,[]) e (fun _=>rfl) ?_
 rintro n ⟨rank,v19,out2,out3⟩ e ih
 replace e:=(C8.eq_2 ..).symm.trans e
 refine cD 1 [] e (fun m e=>?_) fun m e=>?_
 obtain⟨x,C,e⟩:=Ac e
 obtain⟨x1,o,e⟩:=Ac e
 refine mE 3 [(0,fi BF C),(6,fi AZ o)] e (fun v42=>⟨[(0,hC l),(2,iP day),(6,.ptr 0 0),(7,.ptr 1 0),(8,iP rank),(10,.ptr 2 0),(11,.ptr 3 0),(17,K4 s),(18,iP (s.length:Int)),(19,iP v19),(42,bP v42)],[[iP 0,iP 0,.sl [] .own],[iP out2,iP w,.prv (out3.map EH.vals)],kX6 x,kC x1]⟩) ?_ fun y1 e1 d=>?_
 rintro v42 e
 refine cD 0 [] e (fun p e=>?_) fun p e=>?_
 exact mJ 2 [] (ih (_,_,_,_) e)
 obtain⟨l1,q,e⟩:=Ac e
 refine cD 4 [(8,fap EH (by simp) q)] e (fun t e=>?_) fun t e=>?_
 exact mJ 2 [] (ih (_,_,_,_) e)
 refine cD 1 [] e (fun u e=>?_) fun u e=>?_
 exact mJ 2 [] (ih (_,_,_,_) e)
 exact mJ 1 [] (ih (_,_,_,_) e)
 rcases Ao e1 with⟨a,e1⟩|⟨a,e1⟩
 exact mJ 1 [(3,fo a)] (d _ (oj e1))
 obtain⟨a_,g,e1⟩:=Ac e1
 rcases Ao e1 with⟨f,e1⟩|⟨f,e1⟩
 exact mJ 1 [(3,fo a),(2,fk (FV _ _ _ g)),(2,fo f)] (d _ (oj e1))
 exact mJ 1 [(3,fo a),(2,fk (FV _ _ _ g)),(2,fo f)] (d _ (oj e1))
 exact mJ 1 [] (hJ _ (oj e))
theorem RA (n:Nat)(s:(List Ae))(r:(List Int))(h:FM n s=some r):I2 Tryz.prog 29 [K4 s] [] (.ret (.fn 53 [.ptr 0 0])) [[.prv (r.map EH.vals)]]:=by
 unfold FM at h
 refine vS ⟨[0,2,3,5,7,8,9,10],[]⟩ Tryz.func29 follows fun Q k=>?_
 refine wl 1 [] ?_
 refine hwX 6 ?_
 refine mE 2 [(4,fl BF s)] h (fun l=>⟨[(2,.fno false 0 []),(3,.ptr 0 0)],[[.prv (l.map EH.vals)]]⟩) ?_ fun y e hJ=>?_
 rintro l h
 replace h:=Ao h
 rcases h with⟨c,h⟩|⟨c,h⟩
 cases h
 refine thR EH (.cell 0 0) l _ rfl (IF c) fun cap m_ d f=>?_
 obtain⟨data,a,h⟩:=Ac h
 refine wl 1 [(1,fs (XS (σ:=[[.asl 1 0 l.length cap],Dn (l.map EH.vals) m_]) (b:=1) (cap:=cap) (e:=m_) a rfl))] ?_
 replace h:=Ao h
 rcases h with⟨g,h⟩|⟨g,h⟩
 refine unR EH (.cell 0 0) data 1 l.length cap m_ (Hj g) (Ny (Hj g) (IF c)) f ?_
 cases h
 exact rt 1 [] k
 cases h
 refine lF 1 [] (A:=(Int×(List Int))) (fun n (v9,l1)=>Gf n s v9 l1) (fun (v9,l1)=>⟨[(2,.fno false 0 []),(3,.ptr 0 0),(7,K4 s),(8,iP (s.length:Int)),(9,iP v9)],[[.prv (l1.map EH.vals)]]⟩) (0,[0]) e (fun _=>rfl) ?_
 rintro n ⟨v9,l1⟩ e ih
 replace e:=(Gf.eq_2 ..).symm.trans e
 refine cD 1 [] e (fun i e=>?_) fun i e=>?_
 obtain⟨x,m,e⟩:=Ac e
 obtain⟨l2,j,e⟩:=Ac e
 exact mJ 4 [(0,fi BF m),(10,fap EH (by simp) j)] (ih (_,_) e)
 exact mJ 1 [] (hJ _ (oj e))
theorem FA (n:Nat)(s:(List Ae))(r:(List Int))(h:FM n s=some r)(σ:List (List PV)):I2 Tryz.prog 29 [K4 s] σ (.ret (.fn 53 [.ptr σ.length 0])) (σ++[[.prv (r.map EH.vals)]]) :=
 (VC.grow (RA n s r h) rfl).mono (by
  rintro x σ' ⟨y,τ,⟨rfl,rfl⟩,rfl,rfl⟩
  refine⟨?_,rfl⟩
  show Cb.ret (.fn 53 [.ptr (0+σ.length) 0])=_
  rw [ò])
end Go.Proofs.YtehfpameijkafaaGreatDoor
namespace Go.Proofs.YtehfpameijkafaaGreatDoor
open Go Go.RowKit Go.Proofs Go.Sort Go.Vl Go.Sp Go.Shelf
theorem TW {p:Int->Bool}(c:List Int)(k:Nat)(h:k<c.length):(c.take (k+1)).filter p=(c.take k).filter p++(if p c[k] then [c[k]] else []):=by
 rw [List.take_succ_eq_append_getElem h,ė]
 congr 1
 by_cases hp:p c[k]<;>simp [hp]
theorem Vp {p:Int->Bool}(c:List Int)(k:Nat):(c.take k).filter p <+: c.filter p:=(List.take_prefix k c).filter p
theorem Pm (r:Option Nat)(n:Nat):(F0 r).room n:=fun _ h=>by simp [F0,Fence.wide] at h
theorem Uo {P:Program}{f:FuncId}{args:Array Value}{w:World}{R:Ending->World->Prop}{n m:Nat}(h:CallsIn (F0 none) n P f args w R):CallsIn (F0 none) m P f args w R :=
 ⟨h.1,fun cs _=>h.2 cs (Pm _ _)⟩
theorem SS {P:Program}{l:Nat}{args:Array Value}{w:World}{R:Ending->World->Prop}{n m:Nat}(h:YieldAt (F0 none) n P l args w R):YieldAt (F0 none) m P l args w R:=by
 obtain⟨fn,tmps,assign,body,h1,h2⟩:=h
 exact⟨fn,tmps,assign,body,h1,h2.1,fun c cs _=>h2.2 c cs (Pm _ _)⟩
set_option maxRecDepth 100000 in
set_option maxHeartbeats 4000000 in
theorem Xn (F:Fence)(n:Nat)(hfn:∀ f,F.fn f)(hro:F.round=none)(hn:1<=n)(b0 ba len cap l:Nat)(c:List Int)(hreach:c.length*8<=140737488351232)(W:World)
 (hcell0:W.cell? ⟨b0,0,none⟩=some (.slice (some ⟨ba,0,none⟩) len cap))
 (hcon:CallsIn F (n-1) Tryz.prog 54 #[.slice (some ⟨ba,0,none⟩) len cap] W fun e w'=>e=.returned (.slice (some ⟨ba,0,none⟩) c.length cap)/\R7 ba W w'/\∃ O,w'.heap[ba]?=some O/\∀ w2:World,w2.heap[ba]?=some O->∀ k (h:k<c.length),w2.cell? ⟨ba,k,none⟩=some (.int .i64 c[k]))
 (J Jx:List Int->World->Prop) (hJ:∀ s A B,J s A->R7 ba A B->J s B)
 (hY:∀ pre x W1,J pre W1->pre++[x] <+: c.filter (fun x=>decide (x<=41666))->YieldAt F (n-1) Tryz.prog l #[.int .i64 x] W1 fun e W'=>(e=.returned (.bool true)/\J (pre++[x]) W'/\W'.heap[ba]?=W1.heap[ba]?)∨(e=.returned (.bool false)/\Jx (pre++[x]) W'))
 (h0:J [] W) :
 CallsIn F n Tryz.prog 53 #[.func (.yield l) #[] #[],.pointer (some ⟨b0,0,none⟩)] W fun e W'=>(∃ v,e=.returned v)/\(J (c.filter fun x=>decide (x<=41666)) W'∨∃ pre,Jx pre W'):=by
 refine callsIn_of_wp Tryz.func53 rfl (hfn _) ?_ hro
 have h54:F.fn 54:=hfn _
 simp only [Tryz.ntmps53,List.size_toArray,æ,ì,Nat.reduceAdd,Nat.reduceSub,Array.replicate_succ,Array.replicate_zero,List.push_toArray,List.append_toArray,ć,List.cons_append]
 gi_wp2_with (gi_at_call 54;refine hcon.mono ?_;rintro e w1 ⟨rfl,hb1,O,hO,hcells⟩)
 have hJ1:J [] w1:=hJ _ _ _ h0 hb1
 gi_loopw [8] (fun i wr=>∃ k:Nat,k<=c.length/\i=.int .i64 k/\J ((c.take k).filter fun x=>decide (x<=41666)) wr/\wr.heap[ba]?=some O)
  (fun i _=>c.length-(intOf i).toNat)
 case atStart=>exact⟨0,Ĉ _,rfl,hJ1,hO⟩
 case round =>
  obtain⟨k,hk,rfl,hJs,hnx⟩:=hrel
  by_cases hlt:k<c.length
  . have hcx:=hcells wr hnx k hlt
    have hsn:=TW (p:=fun x=>decide (x<=41666)) c k hlt
    by_cases hd:c[k]<=41666
    . rw [Ç (by simpa using hd)] at hsn
      obtain⟨fn,tmps,assign,body,hy,hR⟩:=hY _ c[k] wr hJs (by rw [<- hsn];exact Vp c (k+1))
      rw [<- hsn] at hR
      gi_wp2
      refine hR.mono ?_
      rintro e W3 (⟨rfl,hJ3,hk3⟩|⟨rfl,hJx3⟩)
      . gi_wp2
        go_roundw
        case rel=>exact⟨k+1,by omega,by simp,hJ3,hk3.trans hnx⟩
        case measure=>simp [intOf];omega
      . gi_wp2
        refine bodyPost_ret (results_none rfl _ _ _) rfl ?_
        exact⟨⟨_,rfl⟩,.inr ⟨_,hJx3⟩⟩
    . rw [Ä (by simpa using hd),Ĝ] at hsn
      gi_wp2
      go_roundw
      case rel=>exact⟨k+1,by omega,by simp,by rw [hsn];exact hJs,hnx⟩
      case measure=>simp [intOf];omega
  . obtain rfl:k=c.length:=by omega
    gi_wp2
    go_end0
    rw [List.take_length] at hJs
    exact⟨⟨_,rfl⟩,.inl hJs⟩
theorem Y8 (zs:List Int)(hreach:zs.length*8<=140737488351232):Z6 Tryz.prog 53 zs (H2 zs):=by
 intro b0 ba cap T Ta arr hne hcap hcapm harr W hW l J Jx hJ hJx hY h0
 obtain⟨hW0,hWa⟩:=hW
 have hlt:ba<W.heap.size:=(Array.getElem?_eq_some_iff.1 hWa).1
 have hcell0:W.cell? ⟨b0,0,none⟩=some (.slice (some ⟨ba,0,none⟩) zs.length cap):=by simp [World.cell?,hW0]
 have hH:Holds (Value.int .i64) W ba 0 zs.toArray:=by
  intro j hj
  have hj':j<zs.length:=by simpa using hj
  refine⟨?_,?_⟩
  . rw [ò]
    have h:=harr j hj'
    simp [World.cell?,hWa,h,hj']
  . simp [World.frozen?,hWa]
 have hcon:CallsIn (F0 none) (1-1) Tryz.prog 54 #[.slice (some ⟨ba,0,none⟩) zs.length cap] W fun e w'=>e=.returned (.slice (some ⟨ba,0,none⟩) (Lib.compact zs).length cap)/\R7 ba W w'/\∃ O,w'.heap[ba]?=some O/\∀ w2:World,w2.heap[ba]?=some O->∀ k (h:k<(Lib.compact zs).length),w2.cell? ⟨ba,k,none⟩=some (.int .i64 (Lib.compact zs)[k]) :=
  (L7 (Tryz.slices_Compact_int ba 0 cap zs W hH (by omega) hcap)).mono (by
   rintro e w' ⟨rfl,q,rfl⟩
   refine⟨rfl,⟨rfl,rfl,rfl,?_,fun k _ hk=>NV _ (Sort.ahead W q) ba _ k hk⟩,_,NU _ (Sort.ahead W q) ba _ hWa,?_⟩
   . show W.heap.size<=(W.heap.modify _ _).size
     simp
   . intro w2 hw2 k hk
     have hl:=Lib.compact_length_le zs
     have hg:=Mz (Lib.compact zs++List.replicate (zs.length-(Lib.compact zs).length) 0) arr k
     have hka:k<arr.size:=(Array.getElem?_eq_some_iff.1 (harr k (by omega))).1
     rw [dif_pos ⟨by simp;omega,hka⟩,Ć hk] at hg
     have hs2:=Lz (Lib.compact zs++List.replicate (zs.length-(Lib.compact zs).length) 0) arr
     simp only [World.cell?,hw2]
     rw [É,à (by rw [hs2];exact hka)] at hg
     rw [à (by rw [hs2];exact hka)]
     simpa using hg)
 have hcl:=Lib.compact_length_le zs
 have hY:=hY
 unfold H2 at hY ⊢
 rw [<- V3] at hY ⊢
 exact Uo (n:=1) (Xn (F0 none) 1 (fun _=>trivial) rfl (Ü _) b0 ba zs.length cap l (Lib.compact zs) (by omega) W hcell0 hcon J Jx hJ (fun pre x W1 h1 h2=>SS (hY pre x W1 h1 h2)) h0)
end Go.Proofs.YtehfpameijkafaaGreatDoor
namespace Go.Proofs.YtehfpameijkafaaGreatDoor
open Go.RowKit Go.Q Go.Vl Go.Sp
set_option maxRecDepth 100000
set_option linter.unusedSimpArgs false
set_option maxHeartbeats 4000000
set_option linter.unusedVariables false
theorem JC (n:Nat)(l:(List Ad))(d:Ap)(known:Int)(r:((List AQ)×Int))(h:Gg n l d known=some r):Cz Tryz.prog 11 [hC l,.agg (kD d),iP known] (.tup [hX8 r.1,iP r.2]):=by
 unfold Gg at h
 refine vRP ⟨[0,1,2,3,4,6,7,8,9,10,11,12,13,22,25,26,56,58],[(9,[9999,0,0,1,2,3,4,5,6,7,8,9,10,11,12,13,14,15,16,17,18,19,20,21,22,23])]⟩ Tryz.func11 follows fun Q A=>?_
 obtain⟨s,hs,h⟩:=Ac h
 refine cD 3 [(7,fk (HX _ _ _ _ _ hs))] h (fun p h=>?_) fun p h=>?_
 cases h
 exact rtG 1 [] A
 refine wl 1 [] ?_
 refine pvX (.cell 3 0) ?_
 obtain⟨zs,q,h⟩:=Ac h
 refine wl 1 [(1,fs (FA _ _ _ q [[hC l],kD d,[K4 s.1],[.prv []]]))] ?_
 replace h:=Ao h
 rcases h with⟨B,h⟩|⟨B,h⟩
 cases h
 replace h:=Ao h
 rcases h with⟨C,h⟩|⟨C,h⟩
 refine rgW 0 [] 4 53 26 zs (H2 zs) [(3,.ptr 0 0),(8,.ptr 2 0),(10,.ptr 3 0)] (fun days_ out=>BZ n l s days_ out) (fun out=>[[hC l],kD d,[K4 s.1],[.prv (out.map Bi.vals)]]) (fun day_ out=>⟨[(3,.ptr 0 0),(8,.ptr 2 0),(10,.ptr 3 0),(11,iP day_)],[[hC l],kD d,[K4 s.1],[.prv (out.map Bi.vals)]]⟩) [] h (IF B) (Y8 zs (Č C)) (fun _=>⟨rfl,by kernel_rfl⟩) (fun _ _=>by kernel_rfl) (by kernel_rfl) ?_ ?_
 rintro day days out h J ih
 replace h:=(BZ.eq_2 ..).symm.trans h
 obtain⟨x,E,h⟩:=Ac h
 refine wl 2 [(3,fk (C0 _ _ _ _ _ E))] ?_
 replace h:=Ao h
 rcases h with⟨a,h⟩|⟨a,h⟩
 have D:=h
 obtain rfl:=Uf a
 have h:=D
 clear D
 refine poR Bi D4 (.cell 3 0) [] ?_
 refine wl 5 [] ?_
 refine pvX (.cell 3 0) ?_
 obtain⟨l1,t,h⟩:=Ac h
 exact rgE 1 [(8,fap Bi (by simp) t)] (ih _ h)
 refine thR Bi (.cell 3 0) out _ rfl (IF a) fun cap m_ _ c=>?_
 refine mE 1 [] h (fun v56=>⟨[(10,.ptr 3 0),(11,iP day),(12,.ptr 4 0),(13,iP (out.length:Int)),(56,bP v56)],[[hC l],kD d,[K4 s.1],[.asl 5 0 out.length cap],Sl x,Dn (out.map Bi.vals) m_]⟩) ?_ fun y e hJ=>?_
 rintro v56 h
 refine cD 0 [] h (fun u h=>?_) fun u h=>?_
 refine wl 1 [] ?_
 replace h:=Ao h
 rcases h with⟨v,h⟩|⟨v,h⟩
 refine unR Bi (.cell 3 0) out 5 out.length cap m_ (Hj v) (Ny (Hj v) (IF a)) c ?_
 exact rgE 0 [] (ih _ h)
 cases h
 refine cD 1 [] h (fun w h=>?_) fun w h=>?_
 obtain⟨_,F,h⟩:=Ac h
 obtain⟨l2,z,h⟩:=Ac h
 refine wl 1 [(5,MY 5 4 out.length (DN F)),(1,fsM Bi m_ 1 [(.int .i64 (À (day-1)))] z (Ø rfl) (fun _=>rfl))] ?_
 replace h:=Ao h
 rcases h with⟨f,h⟩|⟨f,h⟩
 refine unR Bi (.cell 3 0) l2 5 out.length cap m_ (Hj f) (Ny (Hj f) (IF a)) c ?_
 obtain⟨l3,m,h⟩:=Ac h
 exact rgE 1 [(8,fap Bi (by simp) m)] (ih _ h)
 cases h
 replace h:=Ao h
 rcases h with⟨g,h⟩|⟨g,h⟩
 refine unR Bi (.cell 3 0) out 5 out.length cap m_ (Hj g) (Ny (Hj g) (IF a)) c ?_
 obtain⟨l4,o,h⟩:=Ac h
 exact rgE 1 [(8,fap Bi (by simp) o)] (ih _ h)
 cases h
 rcases Ao e with⟨b,e⟩|⟨b,e⟩
 obtain⟨_,i,e⟩:=Ac e
 obtain⟨x1,j,e⟩:=Ac e
 rcases Ao e with⟨k,e⟩|⟨k,e⟩
 exact mJ 1 [(2,fo b),(3,MY 5 4 out.length (DN i)),(1,flf Bi m_ 2 j rfl),(4,fo k),(3,MY 5 4 out.length (DN i)),(1,flf Bi m_ 3 j rfl)] (hJ _ (oj e))
 exact mJ 1 [(2,fo b),(3,MY 5 4 out.length (DN i)),(1,flf Bi m_ 2 j rfl),(4,fo k)] (hJ _ (oj e))
 exact mJ 1 [(2,fo b)] (hJ _ (oj e))
 rintro out h
 replace h:=(BZ.eq_1 ..).symm.trans h
 refine poR Bi D4 (.cell 3 0) out ?_
 cases h
 exact rt 1 [] A
 cases h
theorem OU (n:Nat)(l:(List Ad))(d:Ap)(day:Int)(known:Int)(r:(B0×Int))(h:Ep n l d day known=some r):Cz Tryz.prog 10 [hC l,.agg (kD d),iP day,iP known] (.tup [.agg [iP r.1.State,iP r.1.Houses,hI r.1.By],iP r.2]):=by
 unfold Ep at h
 refine vP ⟨[0,1,2,3,5,8,9,10,11,20,28],[]⟩ Tryz.func10 follows fun Q b=>?_
 obtain⟨s,hs,h⟩:=Ac h
 refine cD 3 [(6,fk (HX _ _ _ _ _ hs))] h (fun c h=>?_) fun c h=>?_
 cases h
 exact rt 1 [] b
 refine mE 0 [] h (fun v28=>⟨[(0,hC l),(2,iP day),(8,.ptr 1 0),(9,iP 0),(10,K4 s.1),(28,bP v28)],[kD d,[iP 0,iP 0,.sl [] .own]]⟩) ?_ fun y e hJ=>?_
 rintro v28 h
 refine cD 0 [] h (fun g h=>?_) fun g h=>?_
 cases h
 exact rt 1 [] b
 obtain⟨a_,f,h⟩:=Ac h
 cases h
 exact rt 1 [(3,fk (C0 _ _ _ _ _ f))] b
 rcases Ao e with⟨a,e⟩|⟨a,e⟩
 exact mJ 1 [(2,fo a)] (hJ _ (oj e))
 exact mJ 1 [(2,fo a)] (hJ _ (oj e))
theorem RB (n:Nat)(l:(List Ad))(d:Ap)(known:Int)(r:(Int×Int×Int))(h:KF n l d known=some r):Cz Tryz.prog 12 [hC l,.agg (kD d),iP known] (.tup [iP r.1,iP r.2.1,iP r.2.2]):=by
 unfold KF at h
 refine vP ⟨[0,1,2,4,6,7,8,9,11,20,22,23,24,25,28,34],[]⟩ Tryz.func12 follows fun Q i=>?_
 obtain⟨s,hs,h⟩:=Ac h
 refine cD 3 [(7,fk (JC _ _ _ _ _ hs))] h (fun c h=>?_) fun c h=>?_
 cases h
 exact rt 1 [] i
 refine mE 2 [(3,fl CD s.1)] h (fun (keep,drop)=>⟨[(6,iP keep),(7,iP drop),(8,iP s.2)],[kD d]⟩) ?_ fun y e hJ=>?_
 rintro⟨keep,drop⟩ h
 cases h
 exact rt 1 [] i
 refine lF 1 [] (A:=(Int×Int×Int)) (fun n (keep1,drop1,v24)=>DZ n s d keep1 drop1 v24) (fun (keep1,drop1,v24)=>⟨[(4,.ptr 0 0),(6,iP keep1),(7,iP drop1),(8,iP s.2),(22,hX8 s.1),(23,iP (s.1.length:Int)),(24,iP v24)],[kD d]⟩) (-1,41667,0) e (fun _=>rfl) ?_
 rintro n ⟨keep1,drop1,v24⟩ e ih
 replace e:=(DZ.eq_2 ..).symm.trans e
 refine cD 1 [] e (fun f e=>?_) fun f e=>?_
 obtain⟨x,j,e⟩:=Ac e
 refine cD 4 [(0,fi CD j)] e (fun g e=>?_) fun g e=>?_
 exact mJ 2 [] (ih (_,_,_) e)
 refine mE 0 [] e (fun v34=>⟨[(4,.ptr 0 0),(6,iP keep1),(7,iP drop1),(8,iP s.2),(11,.ptr 1 0),(22,hX8 s.1),(23,iP (s.1.length:Int)),(24,iP v24),(34,bP v34)],[kD d,kX8 x]⟩) ?_ fun y1 e1 b=>?_
 rintro v34 e
 refine cD 0 [] e (fun k e=>?_) fun k e=>?_
 exact mJ 2 [] (ih (_,_,_) e)
 exact mJ 1 [] (ih (_,_,_) e)
 rcases Ao e1 with⟨a,e1⟩|⟨a,e1⟩
 exact mJ 1 [(3,fo a)] (b _ (oj e1))
 exact mJ 1 [(3,fo a)] (b _ (oj e1))
 exact mJ 1 [] (hJ _ (oj e))
end Go.Proofs.YtehfpameijkafaaGreatDoor
namespace Go.Proofs.YtehfpameijkafaaGreatDoor
open Go Go.RowKit Go.Q Go.Vl Go.Sp
set_option maxRecDepth 100000
theorem VC.full {P:Program}{f:FuncId}{args:List PV}{σ σ1:List (List PV)}(h:VC P f args σ fun x σ'=>(x=.ret (.sl [] .own)∨x=.ret (.sl [] .full))/\σ'=σ1):VC P f args σ fun x σ'=>x=.ret (.sl [] .full)/\σ'=σ1:=by
 intro w G vs g i j k l
 refine (h w G vs g i j k l).mono ?_
 rintro e w' ⟨x,σ',G',⟨rfl|rfl,rfl⟩,⟨v,rfl,m,c⟩,hs,d⟩
 . refine⟨_,_,G',⟨rfl,rfl⟩,⟨v,rfl,?_,trivial⟩,hs,d⟩
   rcases (show Az w' G' (.ret 0) [] v from c) with⟨_,rfl⟩|⟨b,cap,sz,T,arr,_,a,_⟩
   . exact .nil _ _
   . exact absurd rfl a
 . exact⟨_,_,G',⟨rfl,rfl⟩,⟨v,rfl,m,c⟩,hs,d⟩
theorem ZJ:Cz Tryz.prog 30 [.sl [] .shared] (.sl [] .full):=by
 intro σ
 have c:VC Tryz.prog 30 [.sl [] .shared] [] (fun x σ'=>(x=.ret (.sl [] .own)∨x=.ret (.sl [] .full))/\σ'=[]):=by
  refine beg (L:=⟨[0,2,4],[]⟩) Tryz.func30 follows (by kernel_rfl) ?_
  refine brN 1 [] fun b=>?_
  cases b
  . exact ro 2 [] (R:=.sl [] .full) fun y a=>⟨.inr (by rw [a]),rfl⟩
  . exact ro 2 [] (R:=.sl [] .own) fun y a=>⟨.inl (by rw [a]),rfl⟩
 have d:=VC.full c
 refine (VC.grow d rfl).mono ?_
 rintro x σ' ⟨y,τ,⟨rfl,rfl⟩,rfl,rfl⟩
 exact⟨rfl,by simp⟩
theorem VI (s:(List Ae))(hs:s=[]):Cz Tryz.prog 30 [hP s CA] (.sl [] .full):=by
 subst hs
 exact ZJ
theorem ZI (s:(List Ae))(hs:s≠[])(r:(List Ae))(hl:CH 24 [] s=some r):Cz Tryz.prog 30 [hP s CA] (oP r CA):=by
 cases s with
 |nil=>exact absurd rfl hs
 |cons x s =>
  refine vPo ⟨[0,2,4],[]⟩ Tryz.func30 follows fun Q a=>?_
  refine wl 3 [] ?_
  exact ro 1 [(2,faF BF hl (by simp))] a
end Go.Proofs.YtehfpameijkafaaGreatDoor
namespace Go.Proofs.YtehfpameijkafaaGreatDoor
open Go.RowKit Go.Q Go.Vl Go.Sp
set_option maxRecDepth 100000
set_option linter.unusedSimpArgs false
set_option maxHeartbeats 4000000
set_option linter.unusedVariables false
theorem Lt (n:Nat)(l:(List Ad))(d:Ap)(known:Int)(later:Int)(r:(Int×Int))(h:Hy n l d known later=some r):Cz Tryz.prog 13 [hC l,.agg (kD d),iP known,iP later] (.tup [iP r.1,iP r.2]):=by
 unfold Hy at h
 refine vRP ⟨[0,1,2,3,4,5,8,9,10,11,12,13,14,15,24,34,40,41,61],[(7,[9999,0,0,2,1,3,4]),(9,[9995])]⟩ Tryz.func13 follows fun Q o=>?_
 obtain⟨s,hs,h⟩:=Ac h
 refine cD 3 [(7,fk (HX _ _ _ _ _ hs))] h (fun p h=>?_) fun p h=>?_
 cases h
 exact rtG 1 [] o
 obtain⟨s1,t,h⟩:=Ac h
 refine cD 2 [(3,fk (HX _ _ _ _ _ t))] h (fun u h=>?_) fun u h=>?_
 cases h
 exact rtG 1 [] o
 refine mE 0 [] h (fun q=>⟨[(4,.ptr 0 0),(8,.ptr 2 0),(9,.ptr 3 0),(10,.ptr 4 0),(12,.ptr 5 0),(40,.fn 53 [.ptr 6 0])],[[hC l],kD d,[iP 0],[iP 0],[K4 s.1],[K4 s1.1],[.prv (q.map EH.vals)]]⟩) ?_ fun y e hJ=>?_
 rintro q h
 replace h:=Ao h
 rcases h with⟨A,h⟩|⟨A,h⟩
 cases h
 replace h:=Ao h
 rcases h with⟨B,h⟩|⟨B,h⟩
 refine rgW 0 [] 6 53 41 q (H2 q) [(4,.ptr 0 0),(8,.ptr 2 0),(9,.ptr 3 0),(10,.ptr 4 0),(12,.ptr 5 0)] (fun days_ _=>Eu n l s s1 days_) (fun _=>[[hC l],kD d,[iP 0],[iP 0],[K4 s.1],[K4 s1.1]]) (fun day_ _=>⟨[(4,.ptr 0 0),(8,.ptr 2 0),(9,.ptr 3 0),(10,.ptr 4 0),(12,.ptr 5 0),(13,iP day_)],[[hC l],kD d,[iP 0],[iP 0],[K4 s.1],[K4 s1.1]]⟩) () h (IF A) (Y8 q (Č B)) (fun _=>⟨rfl,by kernel_rfl⟩) (fun _ _=>by kernel_rfl) (by kernel_rfl) ?_ ?_
 rintro day days _ h J ih
 replace h:=(Eu.eq_2 ..).symm.trans h
 obtain⟨x,j,h⟩:=Ac h
 obtain⟨y1,a,h⟩:=Ac h
 refine wl 1 [] ?_
 refine xE 12 [.no,.no,.no,.call (.agg (Sl x)),.no,.no,.no,.call (.agg (Sl y1)),.no,.no,.no,.no] ⟨[(8,.ptr 2 0),(9,.ptr 3 0),(13,iP day),(14,.ptr 6 0),(15,.ptr 7 0)],[[hC l],kD d,[iP 0],[iP 0],[K4 s.1],[K4 s1.1],Sl x,Sl y1]⟩ (And.intro (And.intro (C0 n l s.1 day x j) (And.intro (And.intro (C0 n l s1.1 day y1 a) (And.intro True.intro (And.intro (And.intro True.intro True.intro) True.intro))) (And.intro (And.intro (And.intro (C0 n l s1.1 day y1 a) True.intro) (And.intro (And.intro (C0 n l s1.1 day y1 a) True.intro) True.intro)) (And.intro (And.intro (And.intro (C0 n l s1.1 day y1 a) (And.intro True.intro True.intro)) (And.intro (And.intro (C0 n l s1.1 day y1 a) True.intro) True.intro)) True.intro)))) (And.intro (And.intro (And.intro (C0 n l s.1 day x j) (And.intro (And.intro (C0 n l s1.1 day y1 a) True.intro) (And.intro (And.intro (C0 n l s1.1 day y1 a) True.intro) True.intro))) (And.intro (And.intro (C0 n l s.1 day x j) (And.intro (C0 n l s1.1 day y1 a) True.intro)) True.intro)) (And.intro (And.intro (And.intro (C0 n l s.1 day x j) (And.intro (And.intro (C0 n l s1.1 day y1 a) (And.intro True.intro True.intro)) (And.intro (And.intro (C0 n l s1.1 day y1 a) True.intro) True.intro))) (And.intro (And.intro (C0 n l s.1 day x j) (And.intro (C0 n l s1.1 day y1 a) True.intro)) True.intro)) True.intro))) ?_
 refine mE 0 [] h (fun v61=>⟨[(8,.ptr 2 0),(9,.ptr 3 0),(13,iP day),(61,bP v61)],[[hC l],kD d,[iP 0],[iP 0],[K4 s.1],[K4 s1.1],Sl x,Sl y1]⟩) ?_ fun y2 e1 k=>?_
 rintro v61 h
 refine cD 0 [] h (fun v h=>?_) fun v h=>?_
 cases h
 exact rgT 1 [] o
 exact rgE 0 [] (ih () h)
 rcases Ao e1 with⟨f,e1⟩|⟨f,e1⟩
 exact mJ 1 [(5,fo f)] (k _ (oj e1))
 exact mJ 1 [(5,fo f)] (k _ (oj e1))
 rintro _ h
 replace h:=(Eu.eq_1 ..).symm.trans h
 cases h
 exact rt 1 [] o
 cases h
 replace e:=Ao e
 rcases e with⟨b,e⟩|⟨b,e⟩
 rcases Acq s1.1 with he|he
 obtain⟨l1,g,e⟩:=Ac e
 obtain⟨zs,i,e⟩:=Ac e
 exact mJ 1 [(2,fk (VI s.1 (Uf b))),(0,faE BF g he),(0,fs (FA _ _ _ i [[hC l],kD d,[iP 0],[iP 0],[K4 s.1],[K4 s1.1]]))] (hJ _ (oj e))
 obtain⟨l1,g,e⟩:=Ac e
 obtain⟨zs,i,e⟩:=Ac e
 exact mJ 1 [(2,fk (VI s.1 (Uf b))),(0,faF BF g he),(0,fs (FA _ _ _ i [[hC l],kD d,[iP 0],[iP 0],[K4 s.1],[K4 s1.1]]))] (hJ _ (oj e))
 obtain⟨c,w,e⟩:=Ac e
 obtain⟨l2,z,e⟩:=Ac e
 obtain⟨zs1,m,e⟩:=Ac e
 exact mJ 1 [(2,fk (ZI s.1 (IF b) _ w)),(0,fa BF z),(0,fs (FA _ _ _ m [[hC l],kD d,[iP 0],[iP 0],[K4 s.1],[K4 s1.1]]))] (hJ _ (oj e))
end Go.Proofs.YtehfpameijkafaaGreatDoor
namespace Go.Proofs.YtehfpameijkafaaGreatDoor
open Go.RowKit Go.Q Go.Vl Go.Sp
set_option maxRecDepth 100000
set_option linter.unusedSimpArgs false
set_option maxHeartbeats 4000000
set_option linter.unusedVariables false
theorem Gw (r:(List AE))(h:FD=some r):Cz Tryz.prog 174 [] (oE r):=by
 unfold FD at h
 refine vPo ⟨[0],[]⟩ Tryz.func174 follows fun Q a=>?_
 obtain⟨l,b,h⟩:=Ac h
 cases h
 exact ro 2 [(14,fB Er b)] a
theorem Ax (p:Ab)(e:Int)(r:(Ex Aq Ab Unit))(h:Bb p e=some r):J9 r (fun v0 s0=>Df Tryz.prog 114 [iP e] [hT p.l,iP p.forms] (.ret (.tup [])) [hT s0.l,iP s0.forms]) (fun e0 s0=>Df Tryz.prog 114 [iP e] [hT p.l,iP p.forms] (.pan [{ v:=.iface 188 (.agg #[(.int .i64 e0.At),(.int .i64 e0.E)]),recovered:=false }]) [hT s0.l,iP s0.forms]):=by
 unfold Bb at h
 refine Z7 ⟨[0,1],[]⟩ Tryz.func114 follows fun Q a=>?_
 obtain⟨x,b,h⟩:=Ac h
 cases h
 exact rp 1 [(4,fi Cg b)] a
theorem AJ (p:Ab)(r:(An×Ab))(h:AH p=some r):Df Tryz.prog 115 [] [hT p.l,iP p.forms] (.ret (.agg [iP r.1.Kind,iP r.1.At,tP r.1.S,iP r.1.N])) [hT r.2.l,iP r.2.forms]:=by
 unfold AH at h
 refine vM ⟨[0,2,3],[]⟩ Tryz.func115 follows fun Q a=>?_
 obtain⟨x,b,h⟩:=Ac h
 obtain⟨l,c,h⟩:=Ac h
 cases h
 exact rt 4 [(5,fi Cg b),(8,fse Cg c)] a
theorem AY (p:Ab)(s:Å)(r:Bool)(h:Bd p s=some r):Df Tryz.prog 116 [tP s] [hT p.l,iP p.forms] (.ret (bP r)) [hT p.l,iP p.forms]:=by
 unfold Bd at h
 refine vM ⟨[0,1,4],[]⟩ Tryz.func116 follows fun Q c=>?_
 refine mE 1 [] h (fun v4=>⟨[(4,bP v4)],[[hT p.l,iP p.forms]]⟩) ?_ fun y e hJ=>?_
 rintro v4 h
 cases h
 exact rt 0 [] c
 obtain⟨x,a,e⟩:=Ac e
 rcases Ao e with⟨b,e⟩|⟨b,e⟩
 exact mJ 1 [(4,fi Cg a),(3,fo b),(4,fi Cg a)] (hJ _ (oj e))
 exact mJ 1 [(4,fi Cg a),(3,fo b)] (hJ _ (oj e))
theorem Cn (p:Ab)(r:Bool)(h:CR p=some r):Df Tryz.prog 117 [] [hT p.l,iP p.forms] (.ret (bP r)) [hT p.l,iP p.forms]:=by
 unfold CR at h
 refine vM ⟨[0,2,9,10],[]⟩ Tryz.func117 follows fun Q j=>?_
 obtain⟨x,m,h⟩:=Ac h
 refine mE 4 [(5,fi Cg m)] h (fun v10=>⟨[(0,.ptr 0 0),(2,bP false),(10,bP v10)],[[hT p.l,iP p.forms]]⟩) ?_ fun y e hJ=>?_
 rintro v10 h
 refine cD 0 [] h (fun b h=>?_) fun b h=>?_
 cases h
 exact rt 1 [] j
 refine mE 0 [] h (fun v2=>⟨[(2,bP v2)],[[hT p.l,iP p.forms]]⟩) ?_ fun y1 e1 a=>?_
 rintro v2 h
 cases h
 exact rt 0 [] j
 obtain⟨i,k,e1⟩:=Ac e1
 rcases Ao e1 with⟨c,e1⟩|⟨c,e1⟩
 exact mJ 1 [(1,fm (AY _ _ _ k)),(0,fo c)] (a _ (oj e1))
 obtain⟨i1,d,e1⟩:=Ac e1
 exact mJ 1 [(1,fm (AY _ _ _ k)),(0,fo c),(1,fm (AY _ _ _ d))] (a _ (oj e1))
 refine cD 0 [] e (fun f e=>?_) fun f e=>?_
 exact mJ 0 [] (hJ _ (oj e))
 refine cD 1 [] e (fun g e=>?_) fun g e=>?_
 exact mJ 0 [] (hJ _ (oj e))
 exact mJ 1 [] (hJ _ (oj e))
theorem GP (p:Ab)(r:(Ex Aq Ab Int))(h:F3 p=some r):J9 r (fun v0 s0=>Df Tryz.prog 145 [] [hT p.l,iP p.forms] (.ret (iP v0)) [hT s0.l,iP s0.forms]) (fun e0 s0=>Df Tryz.prog 145 [] [hT p.l,iP p.forms] (.pan [{ v:=.iface 188 (.agg #[(.int .i64 e0.At),(.int .i64 e0.E)]),recovered:=false }]) [hT s0.l,iP s0.forms]):=by
 unfold F3 at h
 refine Z7 ⟨[0,2,10],[]⟩ Tryz.func145 follows fun Q b=>?_
 obtain⟨x,g,h⟩:=Ac h
 refine cD 2 [(5,fi Cg g)] h (fun i h=>?_) fun i h=>?_
 refine yE h (fun f p1 c h=>?_) fun e p2 c h=>?_
 obtain⟨n_,d,h⟩:=Ac h
 cases h
 exact rt 2 [(1,fm (Ax _ _ (.ok f p1) c)),(1,fm (AJ _ _ d))] b
 cases h
 exact rp 1 [(1,K6 (Ax _ _ (.pan e p2) c))] b
 obtain⟨n_1,a,h⟩:=Ac h
 cases h
 exact rt 1 [(1,fm (AJ _ _ a))] b
theorem BO (p:Ab)(depth:Int)(not_:Bool)(r:(Ex Aq Ab Unit))(h:CM p depth not_=some r):J9 r (fun v0 s0=>Df Tryz.prog 162 [iP depth,bP not_] [hT p.l,iP p.forms] (.ret (.tup [])) [hT s0.l,iP s0.forms]) (fun e0 s0=>Df Tryz.prog 162 [iP depth,bP not_] [hT p.l,iP p.forms] (.pan [{ v:=.iface 188 (.agg #[(.int .i64 e0.At),(.int .i64 e0.E)]),recovered:=false }]) [hT s0.l,iP s0.forms]):=by
 unfold CM at h
 refine Z7 ⟨[0,1,2,16,20],[]⟩ Tryz.func162 follows fun Q k=>?_
 refine mE 0 [] h (fun v16=>⟨[(0,.ptr 0 0),(1,iP depth),(16,bP v16)],[[hT p.l,iP p.forms]]⟩) ?_ fun y e hJ=>?_
 rintro v16 h
 refine mI 0 [] h (fun (p1,p2)=>⟨[(0,.ptr 0 0),(1,iP depth)],[[hT p1,iP p2]]⟩) ?_ fun y1 e1 h j=>?_
 rintro⟨p1,p2⟩ h
 refine cD 1 [] h (fun n h=>?_) fun n h=>?_
 refine yE h (fun f p3 c h=>?_) fun e2 p4 c h=>?_
 cases h
 exact rt 1 [(1,fm (Ax _ _ (.ok f p3) c))] k
 cases h
 exact rp 1 [(1,K6 (Ax _ _ (.pan e2 p4) c))] k
 cases h
 exact rt 0 [] k
 refine cD 0 [] e1 (fun m e1=>?_) fun m e1=>?_
 refine yE e1 (fun f1 p5 d e1=>?_) fun e3 p6 d e1=>?_
 exact mJ 1 [(1,fm (Ax _ _ (.ok f1 p5) d))] (j _ (oj e1))
 cases e1
 cases h
 exact rp 1 [(1,K6 (Ax _ _ (.pan e3 p6) d))] k
 exact mJ 0 [] (j _ (oj e1))
 obtain⟨b,hb,e⟩:=Ac e
 rcases Ao e with⟨a,e⟩|⟨a,e⟩
 rcases Ao e with⟨g,e⟩|⟨g,e⟩
 obtain⟨i,o,e⟩:=Ac e
 exact mJ 1 [(1,fm (Cn _ _ hb)),(1,fo a),(1,fo g),(1,fm (AY _ _ _ o))] (hJ _ (oj e))
 exact mJ 1 [(1,fm (Cn _ _ hb)),(1,fo a),(1,fo g)] (hJ _ (oj e))
 exact mJ 1 [(1,fm (Cn _ _ hb)),(1,fo a)] (hJ _ (oj e))
theorem BN (p:Ab)(s:Å)(r:(Ex Aq Ab Unit))(h:CL p s=some r):J9 r (fun v0 s0=>Df Tryz.prog 147 [tP s] [hT p.l,iP p.forms] (.ret (.tup [])) [hT s0.l,iP s0.forms]) (fun e0 s0=>Df Tryz.prog 147 [tP s] [hT p.l,iP p.forms] (.pan [{ v:=.iface 188 (.agg #[(.int .i64 e0.At),(.int .i64 e0.E)]),recovered:=false }]) [hT s0.l,iP s0.forms]):=by
 unfold CL at h
 refine Z7 ⟨[0,1,7],[]⟩ Tryz.func147 follows fun Q b=>?_
 obtain⟨i,g,h⟩:=Ac h
 refine cD 1 [(2,fm (AY _ _ _ g))] h (fun j h=>?_) fun j h=>?_
 refine yE h (fun f p1 c h=>?_) fun e p2 c h=>?_
 obtain⟨n_,d,h⟩:=Ac h
 cases h
 exact rt 2 [(1,fm (Ax _ _ (.ok f p1) c)),(1,fm (AJ _ _ d))] b
 cases h
 exact rp 1 [(1,K6 (Ax _ _ (.pan e p2) c))] b
 obtain⟨n_1,a,h⟩:=Ac h
 cases h
 exact rt 1 [(1,fm (AJ _ _ a))] b
theorem Ip (p:(List An))(p1:Int)(n_:Int)(q:Int)(q1:Int)(q2:Å)(q3:(List Ah))(q4:Int)(e:Int)(e1:Int)(e2:Å)(e3:(List Ah))(e4:Int)(b:AE)(r:Bool)(h:DY p p1 n_ q q1 q2 q3 q4 e e1 e2 e3 e4 b=some r):I2 Tryz.prog 175 [.agg (kE b),.ptr 2 0,.ptr 1 0] [[hT p,iP p1],[.ptr 0 0],[iP n_],[iP q,iP q1,tP q2,oX q3,iP q4],[iP e,iP e1,tP e2,hX e3,iP e4]] (.ret (bP r)) [[hT p,iP p1],[.ptr 0 0],[iP n_],[iP q,iP q1,tP q2,oX q3,iP q4],[iP e,iP e1,tP e2,hX e3,iP e4]]:=by
 unfold DY at h
 refine vS ⟨[0,1,2,3,4],[]⟩ Tryz.func175 follows fun Q c=>?_
 refine mE 1 [] h (fun v4=>⟨[(4,bP v4)],[[hT p,iP p1],[.ptr 0 0],[iP n_],[iP q,iP q1,tP q2,oX q3,iP q4],[iP e,iP e1,tP e2,hX e3,iP e4],kE b]⟩) ?_ fun y e5 hJ=>?_
 rintro v4 h
 cases h
 exact rt 0 [] c
 rcases Ao e5 with⟨a,e5⟩|⟨a,e5⟩
 obtain⟨i,d,e5⟩:=Ac e5
 exact mJ 1 [(4,fo a),(3,fm (AY _ _ _ d))] (hJ _ (oj e5))
 exact mJ 1 [(4,fo a)] (hJ _ (oj e5))
theorem He (n:Nat)(p:(List An))(p1:Int)(n_:Int)(q:Int)(q1:Int)(q2:Å)(q3:(List Ah))(q4:Int)(e:Int)(e1:Int)(e2:Å)(e3:(List Ah))(e4:Int)(s:(List AE))(r:Int)(h:CV n p p1 n_ q q1 q2 q3 q4 e e1 e2 e3 e4 s=some r):I2 Tryz.prog 173 [hE s,.fn 175 [.ptr 2 0,.ptr 1 0]] [[hT p,iP p1],[.ptr 0 0],[iP n_],[iP q,iP q1,tP q2,oX q3,iP q4],[iP e,iP e1,tP e2,hX e3,iP e4]] (.ret (iP r)) [[hT p,iP p1],[.ptr 0 0],[iP n_],[iP q,iP q1,tP q2,oX q3,iP q4],[iP e,iP e1,tP e2,hX e3,iP e4]]:=by
 unfold CV at h
 refine vS ⟨[0,1,4,5,7,8,9,16],[]⟩ Tryz.func173 follows fun Q b=>?_
 refine mI 2 [(2,fl Er s)] h (fun _=>⟨[(4,iP 0)],[[hT p,iP p1],[.ptr 0 0],[iP n_],[iP q,iP q1,tP q2,oX q3,iP q4],[iP e,iP e1,tP e2,hX e3,iP e4]]⟩) ?_ fun y e5 h hJ=>?_
 rintro _ h
 cases h
 exact rt 1 [] b
 refine lF 1 [] (A:=Int) (fun n v8=>BU n s p p1 n_ q q1 q2 q3 q4 e e1 e2 e3 e4 v8) (fun v8=>⟨[(0,hE s),(1,.fn 175 [.ptr 2 0,.ptr 1 0]),(4,iP 0),(7,iP (s.length:Int)),(8,iP v8)],[[hT p,iP p1],[.ptr 0 0],[iP n_],[iP q,iP q1,tP q2,oX q3,iP q4],[iP e,iP e1,tP e2,hX e3,iP e4]]⟩) 0 e5 (fun _=>rfl) ?_
 rintro n v8 e5 ih
 replace e5:=(BU.eq_2 ..).symm.trans e5
 refine cD 1 [] e5 (fun a e5=>?_) fun a e5=>?_
 obtain⟨x,c,e5⟩:=Ac e5
 obtain⟨l,d,e5⟩:=Ac e5
 refine cD 3 [(5,fi Er c),(1,fs (Ip _ _ _ _ _ _ _ _ _ _ _ _ _ _ _ d))] e5 (fun f e5=>?_) fun f e5=>?_
 cases e5
 cases h
 exact rt 1 [] b
 exact mJ 1 [] (ih _ e5)
 exact mJ 1 [] (hJ _ (oj e5))
theorem Kj (n0:Nat)
 (ih_parse_parser_expr:∀ m,m<=n0->∀ (p:Ab) (depth:Int) (r:(Ex Aq Ab Ah)),AL m p depth=some r->J9 r (fun v0 s0=>Df Tryz.prog 146 [iP depth] [hT p.l,iP p.forms] (.ret (.agg (kX v0))) [hT s0.l,iP s0.forms]) (fun e0 s0=>Df Tryz.prog 146 [iP depth] [hT p.l,iP p.forms] (.pan [{ v:=.iface 188 (.agg #[(.int .i64 e0.At),(.int .i64 e0.E)]),recovered:=false }]) [hT s0.l,iP s0.forms]))
 (ih_parse_parser_level:∀ m,m<=n0->∀ (p:Ab) (n_:Int) (depth:Int) (r:(Ex Aq Ab Ah)),Bc m p n_ depth=some r->J9 r (fun v0 s0=>Df Tryz.prog 163 [iP n_,iP depth] [hT p.l,iP p.forms] (.ret (.agg (kX v0))) [hT s0.l,iP s0.forms]) (fun e0 s0=>Df Tryz.prog 163 [iP n_,iP depth] [hT p.l,iP p.forms] (.pan [{ v:=.iface 188 (.agg #[(.int .i64 e0.At),(.int .i64 e0.E)]),recovered:=false }]) [hT s0.l,iP s0.forms]))
 (ih_parse_parser_neg:∀ m,m<=n0->∀ (p:Ab) (depth:Int) (r:(Ex Aq Ab Ah)),B4 m p depth=some r->J9 r (fun v0 s0=>Df Tryz.prog 172 [iP depth] [hT p.l,iP p.forms] (.ret (.agg (kX v0))) [hT s0.l,iP s0.forms]) (fun e0 s0=>Df Tryz.prog 172 [iP depth] [hT p.l,iP p.forms] (.pan [{ v:=.iface 188 (.agg #[(.int .i64 e0.At),(.int .i64 e0.E)]),recovered:=false }]) [hT s0.l,iP s0.forms]))
 (ih_parse_parser_atom:∀ m,m<=n0->∀ (p:Ab) (depth:Int) (r:(Ex Aq Ab Ah)),B6 m p depth=some r->J9 r (fun v0 s0=>Df Tryz.prog 183 [iP depth] [hT p.l,iP p.forms] (.ret (.agg (kX v0))) [hT s0.l,iP s0.forms]) (fun e0 s0=>Df Tryz.prog 183 [iP depth] [hT p.l,iP p.forms] (.pan [{ v:=.iface 188 (.agg #[(.int .i64 e0.At),(.int .i64 e0.E)]),recovered:=false }]) [hT s0.l,iP s0.forms]))
 (n:Nat) (hn:n<=n0) (p:Ab) (depth:Int) (r:(Ex Aq Ab Ah)) (h:AL (n+1) p depth=some r):J9 r (fun v0 s0=>Df Tryz.prog 146 [iP depth] [hT p.l,iP p.forms] (.ret (.agg (kX v0))) [hT s0.l,iP s0.forms]) (fun e0 s0=>Df Tryz.prog 146 [iP depth] [hT p.l,iP p.forms] (.pan [{ v:=.iface 188 (.agg #[(.int .i64 e0.At),(.int .i64 e0.E)]),recovered:=false }]) [hT s0.l,iP s0.forms]):=by
 replace h:=(AL.eq_2 ..).symm.trans h
 refine Z7 ⟨[0,1,4,5,6,15],[(8,[9999,1,0,0,1,2,3,4,5,6,7,8,9,10])]⟩ Tryz.func146 follows fun Q a=>?_
 refine wl 1 [] ?_
 refine yE h (fun d p1 j h=>?_) fun e p2 j h=>?_
 refine wl 1 [(2,fm (BO _ _ _ (.ok d p1) j))] ?_
 refine yE h (fun e1 p3 b h=>?_) fun e2 p4 b h=>?_
 obtain⟨i,o,h⟩:=Ac h
 refine cD 2 [(2,fm (ih_parse_parser_level _ hn _ _ _ (.ok e1 p3) b)),(3,fm (AY _ _ _ o))] h (fun q h=>?_) fun q h=>?_
 cases h
 exact rt 1 [] a
 obtain⟨n_,k,h⟩:=Ac h
 refine wl 1 [(1,fm (AJ _ _ k))] ?_
 refine yE h (fun a_ p5 c h=>?_) fun e3 p6 c h=>?_
 refine wl 1 [(3,fm (ih_parse_parser_expr _ hn _ _ (.ok a_ p5) c))] ?_
 refine yE h (fun n_1 p7 f h=>?_) fun e4 p8 f h=>?_
 refine wl 1 [(1,fm (BN _ _ (.ok n_1 p7) f))] ?_
 refine yE h (fun e5 p9 g h=>?_) fun e6 p10 g h=>?_
 obtain⟨l,s,h⟩:=Ac h
 cases h
 exact rt 1 [(7,fm (ih_parse_parser_expr _ hn _ _ (.ok e5 p9) g)),(0,fB BQ s)] a
 cases h
 exact rp 1 [(7,K6 (ih_parse_parser_expr _ hn _ _ (.pan e6 p10) g))] a
 cases h
 exact rp 1 [(1,K6 (BN _ _ (.pan e4 p8) f))] a
 cases h
 exact rp 1 [(3,K6 (ih_parse_parser_expr _ hn _ _ (.pan e3 p6) c))] a
 cases h
 exact rp 1 [(2,K6 (ih_parse_parser_level _ hn _ _ _ (.pan e2 p4) b))] a
 cases h
 exact rp 1 [(2,K6 (BO _ _ _ (.pan e p2) j))] a
theorem JU (n0:Nat)
 (ih_parse_parser_expr:∀ m,m<=n0->∀ (p:Ab) (depth:Int) (r:(Ex Aq Ab Ah)),AL m p depth=some r->J9 r (fun v0 s0=>Df Tryz.prog 146 [iP depth] [hT p.l,iP p.forms] (.ret (.agg (kX v0))) [hT s0.l,iP s0.forms]) (fun e0 s0=>Df Tryz.prog 146 [iP depth] [hT p.l,iP p.forms] (.pan [{ v:=.iface 188 (.agg #[(.int .i64 e0.At),(.int .i64 e0.E)]),recovered:=false }]) [hT s0.l,iP s0.forms]))
 (ih_parse_parser_level:∀ m,m<=n0->∀ (p:Ab) (n_:Int) (depth:Int) (r:(Ex Aq Ab Ah)),Bc m p n_ depth=some r->J9 r (fun v0 s0=>Df Tryz.prog 163 [iP n_,iP depth] [hT p.l,iP p.forms] (.ret (.agg (kX v0))) [hT s0.l,iP s0.forms]) (fun e0 s0=>Df Tryz.prog 163 [iP n_,iP depth] [hT p.l,iP p.forms] (.pan [{ v:=.iface 188 (.agg #[(.int .i64 e0.At),(.int .i64 e0.E)]),recovered:=false }]) [hT s0.l,iP s0.forms]))
 (ih_parse_parser_neg:∀ m,m<=n0->∀ (p:Ab) (depth:Int) (r:(Ex Aq Ab Ah)),B4 m p depth=some r->J9 r (fun v0 s0=>Df Tryz.prog 172 [iP depth] [hT p.l,iP p.forms] (.ret (.agg (kX v0))) [hT s0.l,iP s0.forms]) (fun e0 s0=>Df Tryz.prog 172 [iP depth] [hT p.l,iP p.forms] (.pan [{ v:=.iface 188 (.agg #[(.int .i64 e0.At),(.int .i64 e0.E)]),recovered:=false }]) [hT s0.l,iP s0.forms]))
 (ih_parse_parser_atom:∀ m,m<=n0->∀ (p:Ab) (depth:Int) (r:(Ex Aq Ab Ah)),B6 m p depth=some r->J9 r (fun v0 s0=>Df Tryz.prog 183 [iP depth] [hT p.l,iP p.forms] (.ret (.agg (kX v0))) [hT s0.l,iP s0.forms]) (fun e0 s0=>Df Tryz.prog 183 [iP depth] [hT p.l,iP p.forms] (.pan [{ v:=.iface 188 (.agg #[(.int .i64 e0.At),(.int .i64 e0.E)]),recovered:=false }]) [hT s0.l,iP s0.forms]))
 (n:Nat) (hn:n<=n0) (p:Ab) (n_:Int) (depth:Int) (r:(Ex Aq Ab Ah)) (h:Bc (n+1) p n_ depth=some r):J9 r (fun v0 s0=>Df Tryz.prog 163 [iP n_,iP depth] [hT p.l,iP p.forms] (.ret (.agg (kX v0))) [hT s0.l,iP s0.forms]) (fun e0 s0=>Df Tryz.prog 163 [iP n_,iP depth] [hT p.l,iP p.forms] (.pan [{ v:=.iface 188 (.agg #[(.int .i64 e0.At),(.int .i64 e0.E)]),recovered:=false }]) [hT s0.l,iP s0.forms]):=by
 replace h:=(Bc.eq_2 ..).symm.trans h
 refine Z7 ⟨[0,1,2,3,4,6,7,8,9,11,13,31,44,64],[(14,[9999,1,0,1,5,6,7,8,9,10,11,0,2,3,4,12,13,14,15])]⟩ Tryz.func163 follows fun Q a=>?_
 refine mI 2 [] h (fun n_1=>⟨[(2,iP depth),(3,.ptr 1 0),(4,.ptr 2 0),(6,.ptr 3 0)],[[hT p.l,iP p.forms],[.ptr 0 0],[iP n_1],[iP 0,iP 0,tP ⟨#[]⟩,.sl [] .own,iP 0]]⟩) ?_ fun y e h hJ=>?_
 rintro n_1 h
 refine cD 1 [] h (fun t h=>?_) fun t h=>?_
 refine yE h (fun n_2 p1 c h=>?_) fun e1 p2 c h=>?_
 cases h
 exact rt 1 [(2,fm (ih_parse_parser_neg _ hn _ _ (.ok n_2 p1) c))] a
 cases h
 exact rp 1 [(2,K6 (ih_parse_parser_neg _ hn _ _ (.pan e1 p2) c))] a
 refine yE h (fun e2 p3 f h=>?_) fun e3 p4 f h=>?_
 refine lR 2 [(4,fm (ih_parse_parser_level _ hn _ _ _ (.ok e2 p3) f))] (A:=((List An)×Int×Int×Int×ByteArray×(List Ah))) (fun n (p5,p6,e4,e5,e6,e7)=>Dp n n_1 e2 depth p5 p6 e4 e5 e6 e7) (fun (p5,p6,e4,e5,e6,e7)=>⟨[(2,iP depth),(3,.ptr 1 0),(4,.ptr 2 0),(6,.ptr 3 0),(8,.ptr 4 0)],[[hT p5,iP p6],[.ptr 0 0],[iP n_1],[iP 0,iP 0,tP ⟨#[]⟩,.sl [] .own,iP 0],[iP e4,iP e5,tP e6,hX e7,iP e2.At]]⟩) (p3.l,p3.forms,e2.Op,e2.N,e2.S,e2.Kids) hn h (fun _=>rfl) ?_
 rintro n ⟨p5,p6,e4,e5,e6,e7⟩ hn h ih
 replace h:=(Dp.eq_2 ..).symm.trans h
 obtain⟨o_,u,h⟩:=Ac h
 obtain⟨k,G,h⟩:=Ac h
 refine cD 3 [(0,fk (Gw _ u)),(1,fs (He _ _ _ _ _ _ _ _ _ _ _ _ _ _ _ _ G))] h (fun w h=>?_) fun w h=>?_
 cases h
 exact rt 1 [] a
 obtain⟨n_3,q,h⟩:=Ac h
 obtain⟨o_1,b,h⟩:=Ac h
 obtain⟨x,F,h⟩:=Ac h
 refine wl 1 [(1,fm (AJ _ _ q))] ?_
 refine yE h (fun l p7 g h=>?_) fun e8 p8 g h=>?_
 obtain⟨l1,z,h⟩:=Ac h
 refine cD 2 [(8,fk (Gw _ b)),(0,fi Er F),(2,fm (ih_parse_parser_level _ hn _ _ _ (.ok l p7) g)),(0,fB BQ z)] h (fun H h=>?_) fun H h=>?_
 cases h
 exact rt 1 [] a
 exact mJ 0 [] (ih (_,_,_,_,_,_) h)
 cases h
 exact rp 1 [(8,fk (Gw _ b)),(0,fi Er F),(2,K6 (ih_parse_parser_level _ hn _ _ _ (.pan e8 p8) g))] a
 cases h
 exact rp 1 [(4,K6 (ih_parse_parser_level _ hn _ _ _ (.pan e3 p4) f))] a
 refine cD 0 [] e (fun B e=>?_) fun B e=>?_
 obtain⟨i,I,e⟩:=Ac e
 refine cD 1 [(1,fm (AY _ _ _ I))] e (fun C e=>?_) fun C e=>?_
 obtain⟨n_4,s,e⟩:=Ac e
 refine wl 1 [(1,fm (AJ _ _ s))] ?_
 refine yE e (fun d p9 j e=>?_) fun e9 p10 j e=>?_
 refine wl 1 [(3,fm (BO _ _ _ (.ok d p9) j))] ?_
 refine yE e (fun l2 p11 o e=>?_) fun e10 p12 o e=>?_
 obtain⟨l3,D,e⟩:=Ac e
 cases e
 cases h
 exact rt 1 [(4,fm (ih_parse_parser_level _ hn _ _ _ (.ok l2 p11) o)),(0,fB BQ D)] a
 cases e
 cases h
 exact rp 1 [(4,K6 (ih_parse_parser_level _ hn _ _ _ (.pan e10 p12) o))] a
 cases e
 cases h
 exact rp 1 [(3,K6 (BO _ _ _ (.pan e9 p10) j))] a
 exact mJ 1 [] (hJ _ (oj e))
 exact mJ 0 [] (hJ _ (oj e))
theorem Lo (n0:Nat)
 (ih_parse_parser_expr:∀ m,m<=n0->∀ (p:Ab) (depth:Int) (r:(Ex Aq Ab Ah)),AL m p depth=some r->J9 r (fun v0 s0=>Df Tryz.prog 146 [iP depth] [hT p.l,iP p.forms] (.ret (.agg (kX v0))) [hT s0.l,iP s0.forms]) (fun e0 s0=>Df Tryz.prog 146 [iP depth] [hT p.l,iP p.forms] (.pan [{ v:=.iface 188 (.agg #[(.int .i64 e0.At),(.int .i64 e0.E)]),recovered:=false }]) [hT s0.l,iP s0.forms]))
 (ih_parse_parser_level:∀ m,m<=n0->∀ (p:Ab) (n_:Int) (depth:Int) (r:(Ex Aq Ab Ah)),Bc m p n_ depth=some r->J9 r (fun v0 s0=>Df Tryz.prog 163 [iP n_,iP depth] [hT p.l,iP p.forms] (.ret (.agg (kX v0))) [hT s0.l,iP s0.forms]) (fun e0 s0=>Df Tryz.prog 163 [iP n_,iP depth] [hT p.l,iP p.forms] (.pan [{ v:=.iface 188 (.agg #[(.int .i64 e0.At),(.int .i64 e0.E)]),recovered:=false }]) [hT s0.l,iP s0.forms]))
 (ih_parse_parser_neg:∀ m,m<=n0->∀ (p:Ab) (depth:Int) (r:(Ex Aq Ab Ah)),B4 m p depth=some r->J9 r (fun v0 s0=>Df Tryz.prog 172 [iP depth] [hT p.l,iP p.forms] (.ret (.agg (kX v0))) [hT s0.l,iP s0.forms]) (fun e0 s0=>Df Tryz.prog 172 [iP depth] [hT p.l,iP p.forms] (.pan [{ v:=.iface 188 (.agg #[(.int .i64 e0.At),(.int .i64 e0.E)]),recovered:=false }]) [hT s0.l,iP s0.forms]))
 (ih_parse_parser_atom:∀ m,m<=n0->∀ (p:Ab) (depth:Int) (r:(Ex Aq Ab Ah)),B6 m p depth=some r->J9 r (fun v0 s0=>Df Tryz.prog 183 [iP depth] [hT p.l,iP p.forms] (.ret (.agg (kX v0))) [hT s0.l,iP s0.forms]) (fun e0 s0=>Df Tryz.prog 183 [iP depth] [hT p.l,iP p.forms] (.pan [{ v:=.iface 188 (.agg #[(.int .i64 e0.At),(.int .i64 e0.E)]),recovered:=false }]) [hT s0.l,iP s0.forms]))
 (n:Nat) (hn:n<=n0) (p:Ab) (depth:Int) (r:(Ex Aq Ab Ah)) (h:B4 (n+1) p depth=some r):J9 r (fun v0 s0=>Df Tryz.prog 172 [iP depth] [hT p.l,iP p.forms] (.ret (.agg (kX v0))) [hT s0.l,iP s0.forms]) (fun e0 s0=>Df Tryz.prog 172 [iP depth] [hT p.l,iP p.forms] (.pan [{ v:=.iface 188 (.agg #[(.int .i64 e0.At),(.int .i64 e0.E)]),recovered:=false }]) [hT s0.l,iP s0.forms]):=by
 replace h:=(B4.eq_2 ..).symm.trans h
 refine Z7 ⟨[0,1,4,5,8],[]⟩ Tryz.func172 follows fun Q c=>?_
 obtain⟨i,j,h⟩:=Ac h
 refine cD 2 [(2,fm (AY _ _ _ j))] h (fun k h=>?_) fun k h=>?_
 refine yE h (fun a_ p1 f h=>?_) fun e p2 f h=>?_
 cases h
 exact rt 1 [(2,fm (ih_parse_parser_atom _ hn _ _ (.ok a_ p1) f))] c
 cases h
 exact rp 1 [(2,K6 (ih_parse_parser_atom _ hn _ _ (.pan e p2) f))] c
 obtain⟨n_,g,h⟩:=Ac h
 refine wl 1 [(1,fm (AJ _ _ g))] ?_
 refine yE h (fun d p3 a h=>?_) fun e1 p4 a h=>?_
 refine wl 1 [(3,fm (BO _ _ _ (.ok d p3) a))] ?_
 refine yE h (fun n_1 p5 b h=>?_) fun e2 p6 b h=>?_
 obtain⟨l,o,h⟩:=Ac h
 cases h
 exact rt 1 [(4,fm (ih_parse_parser_neg _ hn _ _ (.ok n_1 p5) b)),(0,fB BQ o)] c
 cases h
 exact rp 1 [(4,K6 (ih_parse_parser_neg _ hn _ _ (.pan e2 p6) b))] c
 cases h
 exact rp 1 [(3,K6 (BO _ _ _ (.pan e1 p4) a))] c
theorem Kk (n0:Nat)
 (ih_parse_parser_expr:∀ m,m<=n0->∀ (p:Ab) (depth:Int) (r:(Ex Aq Ab Ah)),AL m p depth=some r->J9 r (fun v0 s0=>Df Tryz.prog 146 [iP depth] [hT p.l,iP p.forms] (.ret (.agg (kX v0))) [hT s0.l,iP s0.forms]) (fun e0 s0=>Df Tryz.prog 146 [iP depth] [hT p.l,iP p.forms] (.pan [{ v:=.iface 188 (.agg #[(.int .i64 e0.At),(.int .i64 e0.E)]),recovered:=false }]) [hT s0.l,iP s0.forms]))
 (ih_parse_parser_level:∀ m,m<=n0->∀ (p:Ab) (n_:Int) (depth:Int) (r:(Ex Aq Ab Ah)),Bc m p n_ depth=some r->J9 r (fun v0 s0=>Df Tryz.prog 163 [iP n_,iP depth] [hT p.l,iP p.forms] (.ret (.agg (kX v0))) [hT s0.l,iP s0.forms]) (fun e0 s0=>Df Tryz.prog 163 [iP n_,iP depth] [hT p.l,iP p.forms] (.pan [{ v:=.iface 188 (.agg #[(.int .i64 e0.At),(.int .i64 e0.E)]),recovered:=false }]) [hT s0.l,iP s0.forms]))
 (ih_parse_parser_neg:∀ m,m<=n0->∀ (p:Ab) (depth:Int) (r:(Ex Aq Ab Ah)),B4 m p depth=some r->J9 r (fun v0 s0=>Df Tryz.prog 172 [iP depth] [hT p.l,iP p.forms] (.ret (.agg (kX v0))) [hT s0.l,iP s0.forms]) (fun e0 s0=>Df Tryz.prog 172 [iP depth] [hT p.l,iP p.forms] (.pan [{ v:=.iface 188 (.agg #[(.int .i64 e0.At),(.int .i64 e0.E)]),recovered:=false }]) [hT s0.l,iP s0.forms]))
 (ih_parse_parser_atom:∀ m,m<=n0->∀ (p:Ab) (depth:Int) (r:(Ex Aq Ab Ah)),B6 m p depth=some r->J9 r (fun v0 s0=>Df Tryz.prog 183 [iP depth] [hT p.l,iP p.forms] (.ret (.agg (kX v0))) [hT s0.l,iP s0.forms]) (fun e0 s0=>Df Tryz.prog 183 [iP depth] [hT p.l,iP p.forms] (.pan [{ v:=.iface 188 (.agg #[(.int .i64 e0.At),(.int .i64 e0.E)]),recovered:=false }]) [hT s0.l,iP s0.forms]))
 (n:Nat) (hn:n<=n0) (p:Ab) (depth:Int) (r:(Ex Aq Ab Ah)) (h:B6 (n+1) p depth=some r):J9 r (fun v0 s0=>Df Tryz.prog 183 [iP depth] [hT p.l,iP p.forms] (.ret (.agg (kX v0))) [hT s0.l,iP s0.forms]) (fun e0 s0=>Df Tryz.prog 183 [iP depth] [hT p.l,iP p.forms] (.pan [{ v:=.iface 188 (.agg #[(.int .i64 e0.At),(.int .i64 e0.E)]),recovered:=false }]) [hT s0.l,iP s0.forms]):=by
 replace h:=(B6.eq_2 ..).symm.trans h
 refine Z7 ⟨[0,1,4,5,6,9,22,29,32,35,40,46,50,56],[(23,[9999,1,0,0,1,2,3,4,5,6,7,8,9])]⟩ Tryz.func183 follows fun Q a=>?_
 obtain⟨b,hb,h⟩:=Ac h
 refine mI 2 [(2,fm (Cn _ _ hb))] h (fun (p1,p2)=>⟨[(0,.ptr 0 0),(1,iP depth),(4,.ptr 1 0)],[[hT p1,iP p2],[iP 0,iP 0,tP ⟨#[]⟩,.sl [] .own,iP 0]]⟩) ?_ fun y e h hJ=>?_
 rintro⟨p1,p2⟩ h
 obtain⟨t,P,h⟩:=Ac h
 refine cD 5 [(1,fm (AJ _ _ P))] h (fun z h=>?_) fun z h=>?_
 cases h
 exact rt 2 [] a
 refine cD 1 [] h (fun B h=>?_) fun B h=>?_
 cases h
 exact rt 2 [] a
 refine cD 1 [] h (fun C h=>?_) fun C h=>?_
 obtain⟨i,R,h⟩:=Ac h
 refine cD 2 [(3,fm (AY _ _ _ R))] h (fun D h=>?_) fun D h=>?_
 cases h
 exact rt 2 [] a
 obtain⟨n_,F,h⟩:=Ac h
 refine mI 2 [(3,fm (AJ _ _ F))] h (fun (p3,p4,e1)=>⟨[(0,.ptr 0 0),(4,.ptr 1 0),(6,.ptr 3 0)],[[hT p3,iP p4],[iP 0,iP 0,tP ⟨#[]⟩,.sl [] .own,iP 0],[iP t.1.Kind,iP t.1.At,tP t.1.S,iP t.1.N],[iP 4,iP t.1.N,tP t.1.S,oX e1,iP t.1.At]]⟩) ?_ fun y1 e2 h G=>?_
 rintro⟨p3,p4,e1⟩ h
 obtain⟨n_1,w,h⟩:=Ac h
 cases h
 exact rt 2 [(1,fm (AJ _ _ w))] a
 refine lR 1 [] (A:=((List An)×Int×(List Ah))) (fun n (p5,p6,e3)=>CF n depth p5 p6 e3) (fun (p5,p6,e3)=>⟨[(0,.ptr 0 0),(1,iP depth),(4,.ptr 1 0),(6,.ptr 3 0)],[[hT p5,iP p6],[iP 0,iP 0,tP ⟨#[]⟩,.sl [] .own,iP 0],[iP t.1.Kind,iP t.1.At,tP t.1.S,iP t.1.N],[iP 4,iP t.1.N,tP t.1.S,oX e3,iP t.1.At]]⟩) (n_.2.l,n_.2.forms,[]) hn e2 (fun _=>rfl) ?_
 rintro n ⟨p5,p6,e3⟩ hn e2 ih
 replace e2:=(CF.eq_2 ..).symm.trans e2
 obtain⟨i1,H,e2⟩:=Ac e2
 refine cD 1 [(1,fm (AY _ _ _ H))] e2 (fun I e2=>?_) fun I e2=>?_
 refine mI 2 [(2,fl BQ e3)] e2 (fun (p7,p8)=>⟨[(0,.ptr 0 0),(1,iP depth),(4,.ptr 1 0),(6,.ptr 3 0)],[[hT p7,iP p8],[iP 0,iP 0,tP ⟨#[]⟩,.sl [] .own,iP 0],[iP t.1.Kind,iP t.1.At,tP t.1.S,iP t.1.N],[iP 4,iP t.1.N,tP t.1.S,oX e3,iP t.1.At]]⟩) ?_ fun y2 e4 e2 x=>?_
 rintro⟨p7,p8⟩ e2
 refine cD 1 [(2,fl BQ e3)] e2 (fun T e2=>?_) fun T e2=>?_
 refine yE e2 (fun d p9 g e2=>?_) fun e5 p10 g e2=>?_
 refine wl 1 [(1,fm (BO _ _ _ (.ok d p9) g))] ?_
 refine yE e2 (fun f p11 j e2=>?_) fun e6 p12 j e2=>?_
 refine wl 1 [(1,fm (Ax _ _ (.ok f p11) j))] ?_
 refine yE e2 (fun e7 p13 k e2=>?_) fun e8 p14 k e2=>?_
 obtain⟨l,U,e2⟩:=Ac e2
 obtain⟨l1,J,e2⟩:=Ac e2
 exact mJ 1 [(5,fm (ih_parse_parser_expr _ hn _ _ (.ok e7 p13) k)),(0,fB BQ U),(0,fa BQ J)] (ih (_,_,_) e2)
 cases e2
 cases h
 exact rp 1 [(5,K6 (ih_parse_parser_expr _ hn _ _ (.pan e8 p14) k))] a
 cases e2
 cases h
 exact rp 1 [(1,K6 (Ax _ _ (.pan e6 p12) j))] a
 cases e2
 cases h
 exact rp 1 [(1,K6 (BO _ _ _ (.pan e5 p10) g))] a
 refine yE e2 (fun e9 p15 o e2=>?_) fun e10 p16 o e2=>?_
 obtain⟨l2,K,e2⟩:=Ac e2
 obtain⟨l3,L,e2⟩:=Ac e2
 exact mJ 1 [(5,fm (ih_parse_parser_expr _ hn _ _ (.ok e9 p15) o)),(0,fB BQ K),(0,fa BQ L)] (ih (_,_,_) e2)
 cases e2
 cases h
 exact rp 1 [(5,K6 (ih_parse_parser_expr _ hn _ _ (.pan e10 p16) o))] a
 refine cD 0 [] e4 (fun M e4=>?_) fun M e4=>?_
 refine yE e4 (fun n_2 p17 q e4=>?_) fun e11 p18 q e4=>?_
 exact mJ 1 [(1,fm (BN _ _ (.ok n_2 p17) q))] (x _ (oj e4))
 cases e4
 cases e2
 cases h
 exact rp 1 [(1,K6 (BN _ _ (.pan e11 p18) q))] a
 exact mJ 0 [] (x _ (oj e4))
 exact mJ 1 [] (G _ (oj e2))
 refine yE h (fun e12 p19 s h=>?_) fun e13 p20 s h=>?_
 refine wl 1 [(3,fm (ih_parse_parser_expr _ hn _ _ (.ok e12 p19) s))] ?_
 refine yE h (fun n_3 p21 u h=>?_) fun e14 p22 u h=>?_
 cases h
 exact rt 2 [(1,fm (BN _ _ (.ok n_3 p21) u))] a
 cases h
 exact rp 1 [(1,K6 (BN _ _ (.pan e14 p22) u))] a
 cases h
 exact rp 1 [(3,K6 (ih_parse_parser_expr _ hn _ _ (.pan e13 p20) s))] a
 refine cD 0 [] e (fun O e=>?_) fun O e=>?_
 refine yE e (fun f1 p23 c e=>?_) fun e15 p24 c e=>?_
 exact mJ 1 [(1,fm (Ax _ _ (.ok f1 p23) c))] (hJ _ (oj e))
 cases e
 cases h
 exact rp 1 [(1,K6 (Ax _ _ (.pan e15 p24) c))] a
 exact mJ 0 [] (hJ _ (oj e))
theorem Gq:∀ n:Nat,(∀ m,m<=n->∀ (p:Ab) (depth:Int) (r:(Ex Aq Ab Ah)),AL m p depth=some r->J9 r (fun v0 s0=>Df Tryz.prog 146 [iP depth] [hT p.l,iP p.forms] (.ret (.agg (kX v0))) [hT s0.l,iP s0.forms]) (fun e0 s0=>Df Tryz.prog 146 [iP depth] [hT p.l,iP p.forms] (.pan [{ v:=.iface 188 (.agg #[(.int .i64 e0.At),(.int .i64 e0.E)]),recovered:=false }]) [hT s0.l,iP s0.forms]))/\(∀ m,m<=n->∀ (p:Ab) (n_:Int) (depth:Int) (r:(Ex Aq Ab Ah)),Bc m p n_ depth=some r->J9 r (fun v0 s0=>Df Tryz.prog 163 [iP n_,iP depth] [hT p.l,iP p.forms] (.ret (.agg (kX v0))) [hT s0.l,iP s0.forms]) (fun e0 s0=>Df Tryz.prog 163 [iP n_,iP depth] [hT p.l,iP p.forms] (.pan [{ v:=.iface 188 (.agg #[(.int .i64 e0.At),(.int .i64 e0.E)]),recovered:=false }]) [hT s0.l,iP s0.forms]))/\(∀ m,m<=n->∀ (p:Ab) (depth:Int) (r:(Ex Aq Ab Ah)),B4 m p depth=some r->J9 r (fun v0 s0=>Df Tryz.prog 172 [iP depth] [hT p.l,iP p.forms] (.ret (.agg (kX v0))) [hT s0.l,iP s0.forms]) (fun e0 s0=>Df Tryz.prog 172 [iP depth] [hT p.l,iP p.forms] (.pan [{ v:=.iface 188 (.agg #[(.int .i64 e0.At),(.int .i64 e0.E)]),recovered:=false }]) [hT s0.l,iP s0.forms]))/\(∀ m,m<=n->∀ (p:Ab) (depth:Int) (r:(Ex Aq Ab Ah)),B6 m p depth=some r->J9 r (fun v0 s0=>Df Tryz.prog 183 [iP depth] [hT p.l,iP p.forms] (.ret (.agg (kX v0))) [hT s0.l,iP s0.forms]) (fun e0 s0=>Df Tryz.prog 183 [iP depth] [hT p.l,iP p.forms] (.pan [{ v:=.iface 188 (.agg #[(.int .i64 e0.At),(.int .i64 e0.E)]),recovered:=false }]) [hT s0.l,iP s0.forms]))
 |0=>⟨(fun m hm p depth r h=>by
  obtain rfl:m=0:=by omega
  exact absurd h (by simp [AL])),
  (fun m hm p n_ depth r h=>by
   obtain rfl:m=0:=by omega
   exact absurd h (by simp [Bc])),
  (fun m hm p depth r h=>by
   obtain rfl:m=0:=by omega
   exact absurd h (by simp [B4])),
  (fun m hm p depth r h=>by
   obtain rfl:m=0:=by omega
   exact absurd h (by simp [B6]))⟩
 |n+1=>by
  have ih:=Gq n
  exact⟨fun m hm p depth r h=>by
   cases m with
   |zero=>exact absurd h (by simp [AL])
   |succ m=>exact Kj n (ih.1) (ih.2.1) (ih.2.2.1) (ih.2.2.2) m (by omega) p depth _ h,
  fun m hm p n_ depth r h=>by
   cases m with
   |zero=>exact absurd h (by simp [Bc])
   |succ m=>exact JU n (ih.1) (ih.2.1) (ih.2.2.1) (ih.2.2.2) m (by omega) p n_ depth _ h,
  fun m hm p depth r h=>by
   cases m with
   |zero=>exact absurd h (by simp [B4])
   |succ m=>exact Lo n (ih.1) (ih.2.1) (ih.2.2.1) (ih.2.2.2) m (by omega) p depth _ h,
  fun m hm p depth r h=>by
   cases m with
   |zero=>exact absurd h (by simp [B6])
   |succ m=>exact Kk n (ih.1) (ih.2.1) (ih.2.2.1) (ih.2.2.2) m (by omega) p depth _ h⟩
theorem HE (n:Nat)(p:Ab)(depth:Int)(r:(Ex Aq Ab Ah))(h:AL n p depth=some r):J9 r (fun v0 s0=>Df Tryz.prog 146 [iP depth] [hT p.l,iP p.forms] (.ret (.agg (kX v0))) [hT s0.l,iP s0.forms]) (fun e0 s0=>Df Tryz.prog 146 [iP depth] [hT p.l,iP p.forms] (.pan [{ v:=.iface 188 (.agg #[(.int .i64 e0.At),(.int .i64 e0.E)]),recovered:=false }]) [hT s0.l,iP s0.forms]) :=
 (Gq n).1 n (Ü _) p depth r h
theorem EL (n:Nat)(p:Ab)(r:(Ex Aq Ab Bq))(h:Fw n p=some r):J9 r (fun v0 s0=>Df Tryz.prog 118 [] [hT p.l,iP p.forms] (.ret (.agg (kA v0))) [hT s0.l,iP s0.forms]) (fun e0 s0=>Df Tryz.prog 118 [] [hT p.l,iP p.forms] (.pan [{ v:=.iface 188 (.agg #[(.int .i64 e0.At),(.int .i64 e0.E)]),recovered:=false }]) [hT s0.l,iP s0.forms]):=by
 unfold Fw at h
 refine Z7 ⟨[0,2,3,4,15,18,19,26,29,37,40,43],[]⟩ Tryz.func118 follows fun Q a=>?_
 obtain⟨t,m,h⟩:=Ac h
 refine cD 6 [(2,fm (AJ _ _ m))] h (fun d h=>?_) fun d h=>?_
 cases h
 exact rt 2 [] a
 refine cD 1 [] h (fun f h=>?_) fun f h=>?_
 cases h
 exact rt 2 [] a
 refine cD 1 [] h (fun g h=>?_) fun g h=>?_
 cases h
 exact rt 2 [] a
 refine cD 4 [] h (fun i h=>?_) fun i h=>?_
 refine yE h (fun n_ p1 j h=>?_) fun e p2 j h=>?_
 cases h
 exact rt 2 [(1,fm (GP _ (.ok n_ p1) j))] a
 cases h
 exact rp 1 [(1,K6 (GP _ (.pan e p2) j))] a
 refine cD 1 [] h (fun k h=>?_) fun k h=>?_
 cases h
 exact rt 2 [] a
 refine cD 1 [] h (fun o h=>?_) fun o h=>?_
 refine yE h (fun e1 p3 b h=>?_) fun e2 p4 b h=>?_
 refine wl 1 [(1,fm (HE _ _ _ (.ok e1 p3) b))] ?_
 refine yE h (fun n_1 p5 c h=>?_) fun e3 p6 c h=>?_
 cases h
 exact rt 2 [(1,fm (BN _ _ (.ok n_1 p5) c))] a
 cases h
 exact rp 1 [(1,K6 (BN _ _ (.pan e3 p6) c))] a
 cases h
 exact rp 1 [(1,K6 (HE _ _ _ (.pan e2 p4) b))] a
 cases h
 exact rt 1 [] a
theorem Ki (n0:Nat)
 (ih_parse_parser_form:∀ m,m<=n0->∀ (p:Ab) (depth:Int) (r:(Ex Aq Ab Au)),BM m p depth=some r->J9 r (fun v0 s0=>Df Tryz.prog 70 [iP depth] [hT p.l,iP p.forms] (.ret (.agg (kF v0))) [hT s0.l,iP s0.forms]) (fun e0 s0=>Df Tryz.prog 70 [iP depth] [hT p.l,iP p.forms] (.pan [{ v:=.iface 188 (.agg #[(.int .i64 e0.At),(.int .i64 e0.E)]),recovered:=false }]) [hT s0.l,iP s0.forms]))
 (n:Nat) (hn:n<=n0) (p:Ab) (depth:Int) (r:(Ex Aq Ab Au)) (h:BM (n+1) p depth=some r):J9 r (fun v0 s0=>Df Tryz.prog 70 [iP depth] [hT p.l,iP p.forms] (.ret (.agg (kF v0))) [hT s0.l,iP s0.forms]) (fun e0 s0=>Df Tryz.prog 70 [iP depth] [hT p.l,iP p.forms] (.pan [{ v:=.iface 188 (.agg #[(.int .i64 e0.At),(.int .i64 e0.E)]),recovered:=false }]) [hT s0.l,iP s0.forms]):=by
 replace h:=(BM.eq_2 ..).symm.trans h
 refine Z7 ⟨[0,1,4,5,6,14,32,49,57,63,76,80],[(13,[9999,1,0,0,1,2,3,4,5,6,7]),(17,[9999,1,0,0,1,2,3,4,5,6,7,8,9])]⟩ Tryz.func70 follows fun Q k=>?_
 obtain⟨x,hx,h⟩:=Ac h
 refine mI 2 [(5,fi Cg hx)] h (fun (p1,p2)=>⟨[(0,.ptr 0 0),(1,iP depth),(4,.ptr 1 0)],[[hT p1,iP p2],[tP ⟨#[]⟩,.sl [] .own,.sl [] .own,iP 0]]⟩) ?_ fun y e h hJ=>?_
 rintro⟨p1,p2⟩ h
 refine mE 1 [] h (fun v32=>⟨[(0,.ptr 0 0),(1,iP depth),(4,.ptr 1 0),(32,bP v32)],[[hT p1,iP (À (p2+1))],[tP ⟨#[]⟩,.sl [] .own,.sl [] .own,iP 0]]⟩) ?_ fun y1 e1 z=>?_
 rintro v32 h
 refine mI 0 [] h (fun (p3,p4)=>⟨[(0,.ptr 0 0),(1,iP depth),(4,.ptr 1 0)],[[hT p3,iP p4],[tP ⟨#[]⟩,.sl [] .own,.sl [] .own,iP 0]]⟩) ?_ fun y2 e2 h B=>?_
 rintro⟨p3,p4⟩ h
 obtain⟨t,ht,h⟩:=Ac h
 refine mI 2 [(1,fm (AJ _ _ ht))] h (fun (p5,p6,f)=>⟨[(0,.ptr 0 0),(1,iP depth),(4,.ptr 1 0),(6,.ptr 3 0)],[[hT p5,iP p6],[tP ⟨#[]⟩,.sl [] .own,.sl [] .own,iP 0],[iP t.1.Kind,iP t.1.At,tP t.1.S,iP t.1.N],[tP t.1.S,oA f,.sl [] .own,iP t.1.At]]⟩) ?_ fun y3 e3 h J=>?_
 rintro⟨p5,p6,f⟩ h
 obtain⟨n_,K,h⟩:=Ac h
 refine cD 1 [(1,fm (AJ _ _ K))] h (fun L h=>?_) fun L h=>?_
 cases h
 exact rt 1 [] k
 refine mI 0 [] h (fun (p7,p8,f1)=>⟨[(0,.ptr 0 0),(4,.ptr 1 0),(6,.ptr 3 0)],[[hT p7,iP p8],[tP ⟨#[]⟩,.sl [] .own,.sl [] .own,iP 0],[iP t.1.Kind,iP t.1.At,tP t.1.S,iP t.1.N],[tP t.1.S,oA f,oF f1,iP t.1.At]]⟩) ?_ fun y4 e4 h M=>?_
 rintro⟨p7,p8,f1⟩ h
 obtain⟨n_1,C,h⟩:=Ac h
 cases h
 exact rt 2 [(1,fm (AJ _ _ C))] k
 refine lR 1 [] (A:=((List An)×Int×(List Au))) (fun n (p9,p10,f2)=>D9 n depth p9 p10 f2) (fun (p9,p10,f2)=>⟨[(0,.ptr 0 0),(1,iP depth),(4,.ptr 1 0),(6,.ptr 3 0)],[[hT p9,iP p10],[tP ⟨#[]⟩,.sl [] .own,.sl [] .own,iP 0],[iP t.1.Kind,iP t.1.At,tP t.1.S,iP t.1.N],[tP t.1.S,oA f,oF f2,iP t.1.At]]⟩) (n_.2.l,n_.2.forms,[]) hn e4 (fun _=>rfl) ?_
 rintro n ⟨p9,p10,f2⟩ hn e4 ih
 replace e4:=(D9.eq_2 ..).symm.trans e4
 obtain⟨i,hi,e4⟩:=Ac e4
 refine cD 1 [(1,fm (AY _ _ _ hi))] e4 (fun hc e4=>?_) fun hc e4=>?_
 refine wl 1 [] ?_
 refine yE e4 (fun f3 p11 o e4=>?_) fun e5 p12 o e4=>?_
 obtain⟨l,hl,e4⟩:=Ac e4
 obtain⟨l1,O,e4⟩:=Ac e4
 exact mJ 1 [(5,fm (ih_parse_parser_form _ hn _ _ (.ok f3 p11) o)),(0,fB Ec hl),(0,fa Ec O)] (ih (_,_,_) e4)
 cases e4
 cases h
 exact rp 1 [(5,K6 (ih_parse_parser_form _ hn _ _ (.pan e5 p12) o))] k
 exact mJ 1 [] (M _ (oj e4))
 refine lR 1 [] (A:=((List An)×Int×(List Bq))) (fun n (p13,p14,f4)=>CE n p13 p14 f4) (fun (p13,p14,f4)=>⟨[(0,.ptr 0 0),(1,iP depth),(4,.ptr 1 0),(6,.ptr 3 0)],[[hT p13,iP p14],[tP ⟨#[]⟩,.sl [] .own,.sl [] .own,iP 0],[iP t.1.Kind,iP t.1.At,tP t.1.S,iP t.1.N],[tP t.1.S,oA f4,.sl [] .own,iP t.1.At]]⟩) (t.2.l,t.2.forms,[]) hn e3 (fun _=>rfl) ?_
 rintro n ⟨p13,p14,f4⟩ hn e3 D
 replace e3:=(CE.eq_2 ..).symm.trans e3
 refine mE 0 [] e3 (fun v49=>⟨[(0,.ptr 0 0),(1,iP depth),(4,.ptr 1 0),(6,.ptr 3 0),(49,bP v49)],[[hT p13,iP p14],[tP ⟨#[]⟩,.sl [] .own,.sl [] .own,iP 0],[iP t.1.Kind,iP t.1.At,tP t.1.S,iP t.1.N],[tP t.1.S,oA f4,.sl [] .own,iP t.1.At]]⟩) ?_ fun y6 e6 F=>?_
 rintro v49 e3
 refine cD 0 [] e3 (fun P e3=>?_) fun P e3=>?_
 refine mE 1 [] e3 (fun v57=>⟨[(0,.ptr 0 0),(1,iP depth),(4,.ptr 1 0),(6,.ptr 3 0),(57,bP v57)],[[hT p13,iP p14],[tP ⟨#[]⟩,.sl [] .own,.sl [] .own,iP 0],[iP t.1.Kind,iP t.1.At,tP t.1.S,iP t.1.N],[tP t.1.S,oA f4,.sl [] .own,iP t.1.At]]⟩) ?_ fun y7 e7 G=>?_
 rintro v57 e3
 refine mI 0 [] e3 (fun (p15,p16)=>⟨[(0,.ptr 0 0),(1,iP depth),(4,.ptr 1 0),(6,.ptr 3 0)],[[hT p15,iP p16],[tP ⟨#[]⟩,.sl [] .own,.sl [] .own,iP 0],[iP t.1.Kind,iP t.1.At,tP t.1.S,iP t.1.N],[tP t.1.S,oA f4,.sl [] .own,iP t.1.At]]⟩) ?_ fun y8 e8 e3 H=>?_
 rintro⟨p15,p16⟩ e3
 refine cD 1 [(2,fl Bj f4)] e3 (fun R e3=>?_) fun R e3=>?_
 refine yE e3 (fun f5 p17 q e3=>?_) fun e9 p18 q e3=>?_
 refine wl 1 [(1,fm (Ax _ _ (.ok f5 p17) q))] ?_
 refine yE e3 (fun a_ p19 a e3=>?_) fun e10 p20 a e3=>?_
 obtain⟨l2,T,e3⟩:=Ac e3
 obtain⟨l3,U,e3⟩:=Ac e3
 exact mJ 1 [(3,fm (EL _ _ (.ok a_ p19) a)),(0,fBF Bj T),(0,fa Bj U)] (D (_,_,_) e3)
 cases e3
 cases h
 exact rp 1 [(3,K6 (EL _ _ (.pan e10 p20) a))] k
 cases e3
 cases h
 exact rp 1 [(1,K6 (Ax _ _ (.pan e9 p18) q))] k
 refine yE e3 (fun a_1 p21 c e3=>?_) fun e11 p22 c e3=>?_
 obtain⟨l4,V,e3⟩:=Ac e3
 obtain⟨l5,W,e3⟩:=Ac e3
 exact mJ 1 [(3,fm (EL _ _ (.ok a_1 p21) c)),(0,fBF Bj V),(0,fa Bj W)] (D (_,_,_) e3)
 cases e3
 cases h
 exact rp 1 [(3,K6 (EL _ _ (.pan e11 p22) c))] k
 refine cD 0 [] e8 (fun X e8=>?_) fun X e8=>?_
 refine yE e8 (fun f6 p23 d e8=>?_) fun e12 p24 d e8=>?_
 exact mJ 1 [(1,fm (Ax _ _ (.ok f6 p23) d))] (H _ (oj e8))
 cases e8
 cases e3
 cases h
 exact rp 1 [(1,K6 (Ax _ _ (.pan e12 p24) d))] k
 exact mJ 0 [] (H _ (oj e8))
 obtain⟨b,hb,e7⟩:=Ac e7
 rcases Ao e7 with⟨s,e7⟩|⟨s,e7⟩
 obtain⟨i1,Y,e7⟩:=Ac e7
 exact mJ 1 [(1,fm (Cn _ _ hb)),(1,fo s),(1,fm (AY _ _ _ Y))] (G _ (oj e7))
 exact mJ 1 [(1,fm (Cn _ _ hb)),(1,fo s)] (G _ (oj e7))
 exact mJ 1 [] (J _ (oj e3))
 obtain⟨i2,I,e6⟩:=Ac e6
 rcases Ao e6 with⟨u,e6⟩|⟨u,e6⟩
 obtain⟨i3,Z,e6⟩:=Ac e6
 exact mJ 1 [(1,fm (AY _ _ _ I)),(1,fo u),(1,fm (AY _ _ _ Z))] (F _ (oj e6))
 exact mJ 1 [(1,fm (AY _ _ _ I)),(1,fo u)] (F _ (oj e6))
 refine cD 0 [] e2 (fun hc7 e2=>?_) fun hc7 e2=>?_
 refine yE e2 (fun f7 p25 g e2=>?_) fun e13 p26 g e2=>?_
 exact mJ 1 [(1,fm (Ax _ _ (.ok f7 p25) g))] (B _ (oj e2))
 cases e2
 cases h
 exact rp 1 [(1,K6 (Ax _ _ (.pan e13 p26) g))] k
 exact mJ 0 [] (B _ (oj e2))
 rcases Ao e1 with⟨w,e1⟩|⟨w,e1⟩
 exact mJ 1 [(2,fo w)] (z _ (oj e1))
 exact mJ 1 [(2,fo w)] (z _ (oj e1))
 refine cD 0 [] e (fun hc9 e=>?_) fun hc9 e=>?_
 refine yE e (fun f8 p27 j e=>?_) fun e14 p28 j e=>?_
 exact mJ 1 [(1,fm (Ax _ _ (.ok f8 p27) j))] (hJ _ (oj e))
 cases e
 cases h
 exact rp 1 [(1,K6 (Ax _ _ (.pan e14 p28) j))] k
 exact mJ 0 [] (hJ _ (oj e))
theorem Gp:∀ n:Nat,(∀ m,m<=n->∀ (p:Ab) (depth:Int) (r:(Ex Aq Ab Au)),BM m p depth=some r->J9 r (fun v0 s0=>Df Tryz.prog 70 [iP depth] [hT p.l,iP p.forms] (.ret (.agg (kF v0))) [hT s0.l,iP s0.forms]) (fun e0 s0=>Df Tryz.prog 70 [iP depth] [hT p.l,iP p.forms] (.pan [{ v:=.iface 188 (.agg #[(.int .i64 e0.At),(.int .i64 e0.E)]),recovered:=false }]) [hT s0.l,iP s0.forms]))
 |0=>(fun m hm p depth r h=>by
  obtain rfl:m=0:=by omega
  exact absurd h (by simp [BM]))
 |n+1=>by
  have ih:=Gp n
  exact fun m hm p depth r h=>by
   cases m with
   |zero=>exact absurd h (by simp [BM])
   |succ m=>exact Ki n (ih) m (by omega) p depth _ h
theorem Eh (n:Nat)(p:Ab)(depth:Int)(r:(Ex Aq Ab Au))(h:BM n p depth=some r):J9 r (fun v0 s0=>Df Tryz.prog 70 [iP depth] [hT p.l,iP p.forms] (.ret (.agg (kF v0))) [hT s0.l,iP s0.forms]) (fun e0 s0=>Df Tryz.prog 70 [iP depth] [hT p.l,iP p.forms] (.pan [{ v:=.iface 188 (.agg #[(.int .i64 e0.At),(.int .i64 e0.E)]),recovered:=false }]) [hT s0.l,iP s0.forms]) :=
 (Gp n) n (Ü _) p depth r h
end Go.Proofs.YtehfpameijkafaaGreatDoor
namespace Go.Sp
open Go Go.Vl
set_option linter.unusedVariables false
def LX (s:Å)(c:Int):Option Int:=some (Lib.indexByte s.data.toList c.toNat.toUInt8)
def Vc (s p:Å):Option Bool:=some (Lib.hasPrefix s.data.toList p.data.toList)
def Si (s p:Å):Option Bool:=match p.data.toList with | [c]=>some (decide (0<=Lib.indexByte s.data.toList c))|_=>none
def Rj:Å:=⟨#[45,62,32,58,61,32,61,61,32,33,61,32,60,61,32,62,61,32,38,38,32,124,124,32,46,46]⟩
def Lc (s:Å):Option (List Å):=if s=Rj then some (Lx.long.map fun l=>⟨⟨l⟩⟩) else none
def LY (s:Å):Option Unit:=if s.size<=1000000 then some () else none
def N4 (s:Å):Bool:=match Lib.atoiAll s.data.toList with|.ok _=>false|_=>true
def K1 (s:Å):Int:=match Lib.atoiAll s.data.toList with|.ok v=>v|.range=>Lib.atoiSat s.data.toList|_=>0
structure Al where
 src:Å
 at_:Int
 out:(List An)
def Ee (c:Int):Option Int :=
 bif (c == 95) then
  some 3
 else
  ((bif (decide (97<=c)) then
   some (decide (c<=122))
  else
   some false
  ):Option Bool).bind fun v6 =>
   ((bif v6 then
    some v6
   else
    ((bif (decide (65<=c)) then
     some (decide (c<=90))
    else
     some false
    ):Option Bool).bind fun v62 =>
     some v62
   ):Option Bool).bind fun v61 =>
    bif v61 then
     some 3
    else
     ((bif (decide (48<=c)) then
      some (decide (c<=57))
     else
      some false
     ):Option Bool).bind fun v19 =>
      bif v19 then
       some 2
      else
       ((bif (c == 32) then
        some (c == 32)
       else
        bif (c == 9) then
         some (c == 9)
        else
         bif (c == 10) then
          some (c == 10)
         else
          some (c == 13)
       ):Option Bool).bind fun v26 =>
        bif v26 then
         some 1
        else
         some 0
def AM:Nat->Al->Int->Option (Int ⊕ (Unit×Al))
 |0,_,_=>none
 |n+1,r_,r_2 =>
  bif (decide (r_2<(r_.src.size:Int))) then
   (gb r_.src r_2).bind fun c =>
   bif (c == 35) then
    (MC r_.src r_2 (r_.src.size:Int)).bind fun s =>
    (LX s 10).bind fun n_ =>
    bif (decide (n_<0)) then
     AM n r_ (À (r_2+(À ((r_.src.size:Int)-r_2))))
    else
     AM n r_ (À (r_2+n_))
   else
    (Ee c).bind fun c1 =>
    bif (c1 == 1) then
     AM n r_ (À (r_2+1))
    else
     some (.inr ((),(Al.mk r_.src r_2 r_.out)))
  else
   some (.inl r_2)
def DC (n:Nat)(r_:Al):Option (Unit×Al) :=
 ((AM n r_ r_.at_
 ):Option (Int ⊕ (Unit×Al))).bind fun y=>match y with
 |.inl r_1 =>
  some ((),(Al.mk r_.src r_1 r_.out))
 |.inr o=>some o
def BD:Nat->Al->Int->Int->Option Int
 |0,_,_,_=>none
 |n+1,r_,least,to_1 =>
  ((bif (decide (to_1<(r_.src.size:Int))) then
   (gb r_.src to_1).bind fun c =>
   (Ee c).bind fun c1 =>
   some (decide (least<=c1))
  else
   some false
  ):Option Bool).bind fun v27 =>
   bif v27 then
    BD n r_ least (À (to_1+1))
   else
    some to_1
def DB (n:Nat)(r_:Al)(least:Int):Option Int :=
 ((BD n r_ least r_.at_
 ):Option Int).bind fun to_ =>
  some to_
def B5 (r_:Al)(kind:Int)(to_:Int)(s:Å)(n_:Int):Option (Int×Al) :=
 (some [(An.mk kind r_.at_ s n_)]).bind fun l =>
 (CH 40 r_.out l).bind fun l1 =>
 some (0,(Al.mk r_.src to_ l1))
def DF (n:Nat)(r_:Al):Option ((Bool×Int)×Al) :=
 (gb r_.src r_.at_).bind fun c =>
 (Ee c).bind fun c1 =>
 bif (c1 != 3) then
  some ((false,0),r_)
 else
  (DB n r_ 2).bind fun to_ =>
  bif (decide (32<(À (to_-r_.at_)))) then
   some ((true,2),r_)
  else
   (MC r_.src r_.at_ to_).bind fun s =>
   (B5 r_ 1 to_ s 0).bind fun p =>
   some ((true,p.1),p.2)
def CS (n:Nat)(r_:Al):Option ((Bool×Int)×Al) :=
 (gb r_.src r_.at_).bind fun c =>
 (Ee c).bind fun c1 =>
 bif (c1 != 2) then
  some ((false,0),r_)
 else
  (DB n r_ 2).bind fun to_ =>
  (MC r_.src r_.at_ to_).bind fun s =>
  (LY s).bind fun _ =>
  bif N4 s then
   some ((true,27),r_)
  else
   ((bif (decide (15<(s.size:Int))) then
    some ((K1 s),true)
   else
    bif (decide (1<(s.size:Int))) then
     (gb s 0).bind fun c2 =>
     some ((K1 s),(c2 == 48))
    else
     some ((K1 s),false)
   ):Option (Int×Bool)).bind fun y=>match y with
   |(n_,v52) =>
    bif v52 then
     some ((true,27),r_)
    else
     (B5 r_ 2 to_ ⟨#[]⟩ n_).bind fun p =>
     some ((true,p.1),p.2)
def A6:Nat->Al->(List Int)->Int->Option (Unit ⊕ ((Bool×Int)×Al))
 |0,_,_,_=>none
 |n+1,r_,b,k =>
  bif (decide ((b.length:Int)<=200)) then
   bif (decide ((r_.src.size:Int)<=k)) then
    some (.inr ((true,28),r_))
   else
    (gb r_.src k).bind fun c1 =>
    bif (c1 == 34) then
     (B5 r_ 3 (À (k+1)) (Xs b) 0).bind fun p =>
     some (.inr ((true,p.1),p.2))
    else
     bif (c1 == 92) then
      ((bif (decide ((À (k+1))<(r_.src.size:Int))) then
       (gb r_.src (À (k+1))).bind fun c3 =>
       (LX ⟨#[34,92,110]⟩ c3).bind fun pair1 =>
       some pair1
      else
       some (-1)
      ):Option Int).bind fun pair =>
       bif (decide (pair<0)) then
        some (.inr ((true,28),r_))
       else
        (gb ⟨#[34,92,10]⟩ pair).bind fun c2 =>
        (some [c2]).bind fun l =>
        (CH 1 b l).bind fun l1 =>
        A6 n r_ l1 (À ((À (k+1))+1))
     else
      ((bif (decide (c1<32)) then
       some true
      else
       some (decide (126<c1))
      ):Option Bool).bind fun v80 =>
       bif v80 then
        some (.inr ((true,28),r_))
       else
        (some [c1]).bind fun l2 =>
        (CH 1 b l2).bind fun l3 =>
        A6 n r_ l3 (À (k+1))
  else
   some (.inl ())
def DA (n:Nat)(r_:Al):Option ((Bool×Int)×Al) :=
 (gb r_.src r_.at_).bind fun c =>
 bif (c != 34) then
  some ((false,0),r_)
 else
  ((A6 n r_ [] (À (r_.at_+1))
  ):Option (Unit ⊕ ((Bool×Int)×Al))).bind fun y=>match y with
  |.inl _ =>
   some ((true,2),r_)
  |.inr o=>some o
def BR:Nat->(List Å)->Å->Al->Int->Option (Unit ⊕ ((Bool×Int)×Al))
 |0,_,_,_,_=>none
 |n+1,f,s,r_,v18 =>
  bif (decide (v18<(f.length:Int))) then
   (gi f v18).bind fun x =>
   (Vc s x).bind fun h_ =>
   bif h_ then
    (B5 r_ 4 (À (r_.at_+2)) x 0).bind fun p1 =>
    some (.inr ((true,p1.1),p1.2))
   else
    BR n f s r_ (À (v18+1))
  else
   some (.inl ())
def DD (n:Nat)(r_:Al):Option ((Bool×Int)×Al) :=
 (MC r_.src r_.at_ (r_.src.size:Int)).bind fun s =>
 (Lc ⟨#[45,62,32,58,61,32,61,61,32,33,61,32,60,61,32,62,61,32,38,38,32,124,124,32,46,46]⟩).bind fun f =>
 ((BR n f s r_ 0
 ):Option (Unit ⊕ ((Bool×Int)×Al))).bind fun y=>match y with
 |.inl _ =>
  (MC s 0 1).bind fun s1 =>
  (Si ⟨#[40,41,123,125,91,93,44,59,58,46,43,45,42,47,37,60,62,61,33,38,124,64,63,94,126]⟩ s1).bind fun c =>
  bif (!c) then
   some ((false,0),r_)
  else
   (B5 r_ 4 (À (r_.at_+1)) s1 0).bind fun p =>
   some ((true,p.1),p.2)
 |.inr o=>some o
def Ar:Nat->Int->Å->Int->(List An)->Option ((ByteArray×Int×(List An)) ⊕ (Int×Al))
 |0,_,_,_,_=>none
 |n+1,v8,r_4,r_5,r_6 =>
  bif (v8 == 0) then
   (DF n (Al.mk r_4 r_5 r_6)).bind fun n_1 =>
   bif n_1.1.1 then
    some (.inr (n_1.1.2,n_1.2))
   else
    Ar n 1 n_1.2.src n_1.2.at_ n_1.2.out
  else
   bif (v8 == 1) then
    (CS n (Al.mk r_4 r_5 r_6)).bind fun n_ =>
    bif n_.1.1 then
     some (.inr (n_.1.2,n_.2))
    else
     Ar n 2 n_.2.src n_.2.at_ n_.2.out
   else
    bif (v8 == 2) then
     (DA n (Al.mk r_4 r_5 r_6)).bind fun t =>
     bif t.1.1 then
      some (.inr (t.1.2,t.2))
     else
      Ar n 3 t.2.src t.2.at_ t.2.out
    else
     bif (v8 == 3) then
      (DD n (Al.mk r_4 r_5 r_6)).bind fun s =>
      bif s.1.1 then
       some (.inr (s.1.2,s.2))
      else
       Ar n 4 s.2.src s.2.at_ s.2.out
     else
      bif (v8 == 4) then
       some (.inl (r_4,r_5,r_6))
      else
       none
def DE (n:Nat)(r_:Al):Option (Int×Al) :=
 ((Ar n 0 r_.src r_.at_ r_.out
 ):Option ((ByteArray×Int×(List An)) ⊕ (Int×Al))).bind fun y=>match y with
 |.inl (r_1,r_2,r_3) =>
  some (26,(Al.mk r_1 r_2 r_3))
 |.inr o=>some o
def Ci:Nat->Å->Å->Int->(List An)->Option ((ByteArray×Int×(List An)) ⊕ ((List An)×Ak))
 |0,_,_,_,_=>none
 |n+1,src,q3,q4,q5 =>
  bif (decide (q4<(src.size:Int))) then
   (DE n (Al.mk q3 q4 q5)).bind fun e1 =>
   bif (e1.1 != 0) then
    some (.inr ([],(Ak.mk e1.2.at_ e1.1)))
   else
    (DC n e1.2).bind fun s1 =>
    Ci n src s1.2.src s1.2.at_ s1.2.out
  else
   some (.inl (q3,q4,q5))
def Hw (n:Nat)(src:Å):Option ((List An)×Ak) :=
 bif (decide (65536<(src.size:Int))) then
  some ([],(Ak.mk 0 2))
 else
  (DC n (Al.mk src 0 [])).bind fun s =>
  ((Ci n src s.2.src s.2.at_ s.2.out
  ):Option ((ByteArray×Int×(List An)) ⊕ ((List An)×Ak))).bind fun y=>match y with
  |.inl (q,q1,q2) =>
   (B5 (Al.mk q q1 q2) 5 (src.size:Int) ⟨#[]⟩ 0).bind fun p =>
   some (p.2.out,(Ak.mk 0 0))
  |.inr o=>some o
end Go.Sp
namespace Go.Proofs.YtehfpameijkafaaGreatDoor
open Go.RowKit Go.Q Go.Vl Go.Sp
set_option maxRecDepth 100000
theorem VJ (s:Å)(c:Int)(r:Int)(h:LX s c=some r):Cz Tryz.prog 156 [tP s,uP c] (iP r):=by
 obtain rfl:=Af h
 exact fun σ=>VC.lits [.string s,.int .u8 c] _ fun w _=>(Tryz.strings_IndexByte s c w).mono fun _ _ h=>⟨h.1,by rw [h.2];exact Below.refl _ _⟩
theorem ZL (s p:Å)(r:Bool)(h:Vc s p=some r):Cz Tryz.prog 170 [tP s,tP p] (bP r):=by
 obtain rfl:=Af h
 exact fun σ=>VC.lits [.string s,.string p] _ fun w _=>(Tryz.strings_HasPrefix s p w).mono fun _ _ h=>⟨h.1,by rw [h.2];exact Below.refl _ _⟩
theorem ZM (s p:Å)(r:Bool)(h:Si s p=some r):Cz Tryz.prog 171 [tP s,tP p] (bP r):=by
 unfold Si at h
 split at h
 . rename_i c e
   obtain rfl:=Af h
   obtain rfl:p=⟨#[c]⟩:=by
    have:p=⟨⟨p.data.toList⟩⟩:=rfl
    rw [this,e]
   exact fun σ=>VC.lits [.string s,.string ⟨#[c]⟩] _ fun w _=>(Tryz.strings_Contains_one s c w).mono fun _ _ h=>⟨h.1,by rw [h.2];exact Below.refl _ _⟩
 . cases h
theorem Ad8 {w:World}(h:PC w):Lib.TabIs Tryz.prog w "strings.asciiSpace" .u8 Lib.asciiSpaceTab:=by
 obtain⟨⟨⟨T,o,a⟩,_⟩,_⟩:=h
 unfold Lib.TabIs World.var?
 rw [show Tryz.prog.globalNamed "strings.asciiSpace" = some 0 from by kernel_rfl]
 simp only [Á,a]
theorem U4 (s:Å)(r:List Å)(h:Lc s=some r):Cz Tryz.prog 169 [tP s] (hP r Fi):=by
 unfold Lc at h
 split at h
 . rename_i e
   subst e
   obtain rfl:=Af h
   refine VC.fin (fun Q a=>?_) rfl rfl
   have c:Lib.fields Rj.data.toList=Lx.long:=by decide +kernel
   have d:∀ (j:Nat) (b:UInt8),Rj.data.toList[j]?=some b->b.toNat<128:=fun j b hb=>(show ∀ b∈Rj.data.toList,b.toNat<128 by decide) b (Ò hb)
   have h:=VC.freshSl (P:=Tryz.prog) (f:=169) (σ:=[]) [.string Rj] (Lx.long.map fun l=>.string ⟨⟨l⟩⟩) 9 (by simp [Lx.long,Value.oneCell']) (by decide) fun w g=>by
    have:=Tryz.strings_Fields Rj w (by decide) d (Ad8 g)
    rw [c] at this
    refine this.mono fun e w' h=>?_
    rw [Î]
    exact h
   rw [List.map_map] at h
   refine VC.mono h ?_
   rintro _ _ ⟨rfl,rfl⟩
   exact a _ rfl
 . cases h
theorem V8 {w w':World}(h:w'=w∨∃ t,w'=Lib.bytesWorld w 5 t):Below w.heap.size w w':=by
 rcases h with rfl|⟨t,rfl⟩
 . exact Below.refl _ _
 . exact⟨rfl,rfl,rfl,by rw [Lib.bytesWorld_size];omega,fun j a=>Lib.bytesWorld_at_old w 5 t j a⟩
theorem fit {s:Å}{u:Unit}(h:LY s=some u):s.size<=1000000:=by
 unfold LY at h
 split at h
 . assumption
 . cases h
theorem ZN (s:Å){u:Unit}(hf:LY s=some u)(h:N4 s=false):Cz Tryz.prog 168 [tP s] (.tup [iP (K1 s),.lit .nilIface]):=by
 have hs:=fit hf
 unfold N4 at h
 unfold K1
 split at h
 . rename_i v a
   rw [a]
   exact fun σ=>VC.litNil [.string s] _ fun w _=>(Tryz.strconv_Atoi_ok s (by omega) v a w).mono fun _ _ h=>⟨h.1,V8 h.2⟩
 . cases h
theorem XU (s:Å){u:Unit}(hf:LY s=some u)(h:N4 s=true):Cz Tryz.prog 168 [tP s] (.tup [iP (K1 s),.ifc]):=by
 have hs:=fit hf
 unfold N4 at h
 unfold K1
 intro σ
 cases c:Lib.atoiAll s.data.toList with
 | «syntax» =>
  refine VC.litErr [.string s] _ fun w f=>?_
  obtain⟨ev,a,b⟩:=f.2.1
  refine (Tryz.strconv_Atoi_syntax s (by omega) c ev w a b).mono ?_
  rintro e wc ⟨NN,rfl,_,_,d⟩
  exact⟨⟨_,_,rfl⟩,d⟩
 |range =>
  refine VC.litErr [.string s] _ fun w f=>?_
  obtain⟨ev,a,b⟩:=f.2.2
  refine (Tryz.strconv_Atoi_range s (by omega) c ev w a b).mono ?_
  rintro e wc ⟨NN,rfl,_,_,d⟩
  exact⟨⟨_,_,rfl⟩,d⟩
 |ok v=>rw [c] at h;cases h
end Go.Proofs.YtehfpameijkafaaGreatDoor
namespace Go.Proofs.YtehfpameijkafaaGreatDoor
open Go.RowKit Go.Q Go.Vl Go.Sp
set_option maxRecDepth 100000
set_option linter.unusedSimpArgs false
set_option maxHeartbeats 4000000
set_option linter.unusedVariables false
theorem Hs (c:Int)(r:Int)(h:Ee c=some r):Cz Tryz.prog 157 [uP c] (iP r):=by
 unfold Ee at h
 refine vP ⟨[0,2,3,6,19,26],[]⟩ Tryz.func157 follows fun Q g=>?_
 refine cD 7 [] h (fun i h=>?_) fun i h=>?_
 cases h
 exact rt 2 [] g
 refine mE 0 [] h (fun v6=>⟨[(0,uP c),(2,iP 0),(6,bP v6)],[]⟩) ?_ fun y e hJ=>?_
 rintro v6 h
 refine mE 0 [] h (fun v61=>⟨[(0,uP c),(2,iP 0),(6,bP v61)],[]⟩) ?_ fun y1 e1 j=>?_
 rintro v61 h
 refine cD 0 [] h (fun m h=>?_) fun m h=>?_
 cases h
 exact rt 2 [] g
 refine mE 0 [] h (fun v19=>⟨[(0,uP c),(2,iP 0),(19,bP v19)],[]⟩) ?_ fun y2 e2 k=>?_
 rintro v19 h
 refine cD 0 [] h (fun n h=>?_) fun n h=>?_
 cases h
 exact rt 2 [] g
 refine mE 1 [] h (fun v26=>⟨[(2,iP 0),(26,bP v26)],[]⟩) ?_ fun y3 e3 a=>?_
 rintro v26 h
 refine cD 0 [] h (fun t h=>?_) fun t h=>?_
 cases h
 exact rt 2 [] g
 cases h
 exact rt 2 [] g
 refine cD 0 [] e3 (fun o e3=>?_) fun o e3=>?_
 exact mJ 0 [] (a _ (oj e3))
 refine cD 1 [] e3 (fun p e3=>?_) fun p e3=>?_
 exact mJ 0 [] (a _ (oj e3))
 refine cD 1 [] e3 (fun q e3=>?_) fun q e3=>?_
 exact mJ 0 [] (a _ (oj e3))
 exact mJ 1 [] (a _ (oj e3))
 rcases Ao e2 with⟨b,e2⟩|⟨b,e2⟩
 exact mJ 1 [(2,fo b)] (k _ (oj e2))
 exact mJ 1 [(2,fo b)] (k _ (oj e2))
 refine cD 0 [] e1 (fun s e1=>?_) fun s e1=>?_
 exact mJ 0 [] (j _ (oj e1))
 refine mE 0 [] e1 (fun v62=>⟨[(0,uP c),(2,iP 0),(6,bP v62)],[]⟩) ?_ fun y4 e4 l=>?_
 rintro v62 e1
 exact mJ 0 [] (j _ (oj e1))
 rcases Ao e4 with⟨d,e4⟩|⟨d,e4⟩
 exact mJ 1 [(2,fo d)] (l _ (oj e4))
 exact mJ 1 [(2,fo d)] (l _ (oj e4))
 rcases Ao e with⟨f,e⟩|⟨f,e⟩
 exact mJ 1 [(2,fo f)] (hJ _ (oj e))
 exact mJ 1 [(2,fo f)] (hJ _ (oj e))
theorem HG (n:Nat)(r_:Al)(r:(Unit×Al))(h:DC n r_=some r):Df Tryz.prog 142 [] [tP r_.src,iP r_.at_,oT r_.out] (.ret (.tup [])) [tP r.2.src,iP r.2.at_,oT r.2.out]:=by
 unfold DC at h
 refine vM ⟨[0,2,3,13,23,37,56],[(0,[9999,0,0,1,2,3,4,5,6,7,8,9]),(1,[9999,0,0,1,2,3,4,5,6,7,8,9]),(3,[9999,0,0,1,2,3,4,5,6,7,8,9,10]),(5,[9999,0,0,1,2,3,4,5,6,7,8,9,10])]⟩ Tryz.func142 follows fun Q j=>?_
 refine mI 0 [] h (fun r_1=>⟨[],[[tP r_.src,iP r_1,oT r_.out]]⟩) ?_ fun y e h hJ=>?_
 rintro r_1 h
 cases h
 exact rt 0 [] j
 refine lF 1 [] (A:=Int) (fun n r_2=>AM n r_ r_2) (fun r_2=>⟨[(0,.ptr 0 0)],[[tP r_.src,iP r_2,oT r_.out]]⟩) r_.at_ e (fun _=>rfl) ?_
 rintro n r_2 e ih
 replace e:=(AM.eq_2 ..).symm.trans e
 refine cD 1 [] e (fun b e=>?_) fun b e=>?_
 obtain⟨c,k,e⟩:=Ac e
 refine cD 4 [(8,fb k)] e (fun d e=>?_) fun d e=>?_
 obtain⟨s,hs,e⟩:=Ac e
 obtain⟨n_,f,e⟩:=Ac e
 refine cD 2 [(8,fu hs),(0,fk (VJ _ _ _ f))] e (fun g e=>?_) fun g e=>?_
 exact mJ 2 [] (ih _ e)
 exact mJ 1 [] (ih _ e)
 obtain⟨c1,a,e⟩:=Ac e
 refine cD 1 [(1,fk (Hs _ _ a))] e (fun i e=>?_) fun i e=>?_
 exact mJ 1 [] (ih _ e)
 cases e
 cases h
 exact rt 0 [] j
 exact mJ 1 [] (hJ _ (oj e))
theorem HF (n:Nat)(r_:Al)(least:Int)(r:Int)(h:DB n r_ least=some r):Df Tryz.prog 167 [iP least] [tP r_.src,iP r_.at_,oT r_.out] (.ret (iP r)) [tP r_.src,iP r_.at_,oT r_.out]:=by
 unfold DB at h
 refine vM ⟨[0,1,4,5,27],[]⟩ Tryz.func167 follows fun Q g=>?_
 refine mE 2 [] h (fun to_=>⟨[(4,iP 0),(5,iP to_)],[[tP r_.src,iP r_.at_,oT r_.out]]⟩) ?_ fun y e hJ=>?_
 rintro to_ h
 cases h
 exact rt 1 [] g
 refine lF 1 [] (A:=Int) (fun n to_1=>BD n r_ least to_1) (fun to_1=>⟨[(0,.ptr 0 0),(1,iP least),(4,iP 0),(5,iP to_1)],[[tP r_.src,iP r_.at_,oT r_.out]]⟩) r_.at_ e (fun _=>rfl) ?_
 rintro n to_1 e ih
 replace e:=(BD.eq_2 ..).symm.trans e
 refine mE 0 [] e (fun v27=>⟨[(0,.ptr 0 0),(1,iP least),(4,iP 0),(5,iP to_1),(27,bP v27)],[[tP r_.src,iP r_.at_,oT r_.out]]⟩) ?_ fun y1 e1 b=>?_
 rintro v27 e
 refine cD 0 [] e (fun i e=>?_) fun i e=>?_
 exact mJ 2 [] (ih _ e)
 exact mJ 1 [] (hJ _ (oj e))
 rcases Ao e1 with⟨a,e1⟩|⟨a,e1⟩
 obtain⟨c,f,e1⟩:=Ac e1
 obtain⟨c1,d,e1⟩:=Ac e1
 exact mJ 1 [(7,fo a),(5,fb f),(0,fk (Hs _ _ d))] (b _ (oj e1))
 exact mJ 1 [(7,fo a)] (b _ (oj e1))
theorem CJ (r_:Al)(kind:Int)(to_:Int)(s:Å)(n_:Int)(r:(Int×Al))(h:B5 r_ kind to_ s n_=some r):Df Tryz.prog 144 [iP kind,iP to_,tP s,iP n_] [tP r_.src,iP r_.at_,oT r_.out] (.ret (iP r.1)) [tP r.2.src,iP r.2.at_,oT r.2.out]:=by
 unfold B5 at h
 refine vM ⟨[0,1,2,3,4,10],[(1,[9999,0,0,1,2,3,4,5,6,7,8,9,10,11,12,13,14,15,16,17])]⟩ Tryz.func144 follows fun Q b=>?_
 obtain⟨l,c,h⟩:=Ac h
 obtain⟨l1,a,h⟩:=Ac h
 cases h
 exact rt 4 [(14,fB Cg c),(0,fa Cg a)] b
theorem LJ (n:Nat)(r_:Al)(r:((Bool×Int)×Al))(h:DF n r_=some r):Df Tryz.prog 158 [] [tP r_.src,iP r_.at_,oT r_.out] (.ret (.tup [bP r.1.1,iP r.1.2])) [tP r.2.src,iP r.2.at_,oT r.2.out]:=by
 unfold DF at h
 refine vM ⟨[0,2,3,4,15,24],[(1,[9999,0,0,1,2,3,4,5,6,7,8,9,10]),(6,[9999,1,0,0,1,2,3,4,5,6,7,8,9,10,11,12,13,14])]⟩ Tryz.func158 follows fun Q b=>?_
 obtain⟨c,g,h⟩:=Ac h
 obtain⟨c1,d,h⟩:=Ac h
 refine cD 2 [(10,fb g),(0,fk (Hs _ _ d))] h (fun e h=>?_) fun e h=>?_
 cases h
 exact rt 1 [] b
 obtain⟨to_,a,h⟩:=Ac h
 refine cD 2 [(1,fm (HF _ _ _ _ a))] h (fun f h=>?_) fun f h=>?_
 cases h
 exact rt 1 [] b
 obtain⟨s,hs,h⟩:=Ac h
 obtain⟨p,i,h⟩:=Ac h
 cases h
 exact rt 1 [(11,fu hs),(0,fm (CJ _ _ _ _ _ _ i))] b
theorem Kl (n:Nat)(r_:Al)(r:((Bool×Int)×Al))(h:CS n r_=some r):Df Tryz.prog 159 [] [tP r_.src,iP r_.at_,oT r_.out] (.ret (.tup [bP r.1.1,iP r.1.2])) [tP r.2.src,iP r.2.at_,oT r.2.out]:=by
 unfold CS at h
 refine vM ⟨[0,2,3,4,5,6,7,18,52],[(1,[9999,0,0,1,2,3,4,5,6,7,8,9,10]),(4,[9999,0,0,1,2,3,4,5,6,7,8,9,10])]⟩ Tryz.func159 follows fun Q i=>?_
 obtain⟨c,o,h⟩:=Ac h
 obtain⟨c1,j,h⟩:=Ac h
 refine cD 2 [(10,fb o),(0,fk (Hs _ _ j))] h (fun k h=>?_) fun k h=>?_
 cases h
 exact rt 1 [] i
 obtain⟨to_,f,h⟩:=Ac h
 obtain⟨s,hs,h⟩:=Ac h
 refine wl 2 [(1,fm (HF _ _ _ _ f)),(10,fu hs)] ?_
 obtain⟨_,m,h⟩:=Ac h
 replace h:=Ao h
 rcases h with⟨b,h⟩|⟨b,h⟩
 cases h
 exact rt 4 [(1,fk (XU _ m b))] i
 refine mE 1 [(1,fk (ZN _ m b))] h (fun (n_,v52)=>⟨[(0,.ptr 0 0),(2,bP false),(3,iP 0),(4,iP to_),(6,iP n_),(52,bP v52)],[[tP r_.src,iP r_.at_,oT r_.out]]⟩) ?_ fun y e hJ=>?_
 rintro⟨n_,v52⟩ h
 refine cD 0 [] h (fun l h=>?_) fun l h=>?_
 cases h
 exact rt 1 [] i
 obtain⟨p,q,h⟩:=Ac h
 cases h
 exact rt 1 [(3,fm (CJ _ _ _ _ _ _ q))] i
 rcases Ao e with⟨a,e⟩|⟨a,e⟩
 exact mJ 1 [(7,fo a)] (hJ _ (oj e))
 rcases Ao e with⟨d,e⟩|⟨d,e⟩
 obtain⟨c2,g,e⟩:=Ac e
 exact mJ 1 [(7,fo a),(3,fo d),(1,fb g)] (hJ _ (oj e))
 exact mJ 1 [(7,fo a),(3,fo d)] (hJ _ (oj e))
theorem LG (n:Nat)(r_:Al)(r:((Bool×Int)×Al))(h:DA n r_=some r):Df Tryz.prog 160 [] [tP r_.src,iP r_.at_,oT r_.out] (.ret (.tup [bP r.1.1,iP r.1.2])) [tP r.2.src,iP r.2.at_,oT r.2.out]:=by
 unfold DA at h
 refine vM ⟨[0,2,3,4,5,6,7,17,25,34,45,54,65,74,80],[(1,[9999,0,0,1,2,3,4,5,6,7,8,9])]⟩ Tryz.func160 follows fun Q f=>?_
 obtain⟨c,E,h⟩:=Ac h
 refine cD 2 [(10,fb E)] h (fun g h=>?_) fun g h=>?_
 cases h
 exact rt 1 [] f
 refine mI 2 [] h (fun _=>⟨[(2,bP false),(3,iP 0)],[[tP r_.src,iP r_.at_,oT r_.out]]⟩) ?_ fun y e h hJ=>?_
 rintro _ h
 cases h
 exact rt 1 [] f
 refine lF 1 [] (A:=((List Int)×Int)) (fun n (b,k)=>A6 n r_ b k) (fun (b,k)=>⟨[(0,.ptr 0 0),(2,bP false),(3,iP 0),(4,oP b Iv),(5,iP k)],[[tP r_.src,iP r_.at_,oT r_.out]]⟩) ([],(À (r_.at_+1))) e (fun _=>rfl) ?_
 rintro n ⟨b,k⟩ e ih
 replace e:=(A6.eq_2 ..).symm.trans e
 refine cD 1 [(1,fl Ly b)] e (fun i e=>?_) fun i e=>?_
 refine cD 2 [] e (fun q e=>?_) fun q e=>?_
 cases e
 cases h
 exact rt 1 [] f
 obtain⟨c1,s,e⟩:=Ac e
 refine cD 3 [(5,fb s)] e (fun t e=>?_) fun t e=>?_
 obtain⟨p,F,e⟩:=Ac e
 cases e
 cases h
 exact rt 1 [(4,fg Ly (fun _=>rfl) b),(0,fm (CJ _ _ _ _ _ _ F))] f
 refine cD 1 [] e (fun u e=>?_) fun u e=>?_
 refine mE 3 [] e (fun pair=>⟨[(0,.ptr 0 0),(2,bP false),(3,iP 0),(4,oP b Iv),(5,iP (À (k+1))),(7,iP pair)],[[tP r_.src,iP r_.at_,oT r_.out]]⟩) ?_ fun y1 e1 j=>?_
 rintro pair e
 refine cD 1 [] e (fun v e=>?_) fun v e=>?_
 cases e
 cases h
 exact rt 1 [] f
 obtain⟨c2,w,e⟩:=Ac e
 obtain⟨l,G,e⟩:=Ac e
 obtain⟨l1,x,e⟩:=Ac e
 exact mJ 2 [(2,fb w),(0,fB Ly G),(0,fa Ly x)] (ih (_,_) e)
 refine cD 0 [] e1 (fun z e1=>?_) fun z e1=>?_
 obtain⟨c3,m,e1⟩:=Ac e1
 obtain⟨pair1,a,e1⟩:=Ac e1
 exact mJ 1 [(5,fb m),(0,fk (VJ _ _ _ a))] (j _ (oj e1))
 exact mJ 0 [] (j _ (oj e1))
 refine mE 0 [] e (fun v80=>⟨[(0,.ptr 0 0),(2,bP false),(3,iP 0),(4,oP b Iv),(5,iP k),(6,uP c1),(80,bP v80)],[[tP r_.src,iP r_.at_,oT r_.out]]⟩) ?_ fun y2 e2 o=>?_
 rintro v80 e
 refine cD 0 [] e (fun B e=>?_) fun B e=>?_
 cases e
 cases h
 exact rt 1 [] f
 obtain⟨l2,C,e⟩:=Ac e
 obtain⟨l3,D,e⟩:=Ac e
 exact mJ 2 [(2,fB Ly C),(0,fa Ly D)] (ih (_,_) e)
 rcases Ao e2 with⟨d,e2⟩|⟨d,e2⟩
 exact mJ 1 [(2,fo d)] (o _ (oj e2))
 exact mJ 1 [(2,fo d)] (o _ (oj e2))
 exact mJ 1 [] (hJ _ (oj e))
theorem LH (n:Nat)(r_:Al)(r:((Bool×Int)×Al))(h:DD n r_=some r):Df Tryz.prog 161 [] [tP r_.src,iP r_.at_,oT r_.out] (.ret (.tup [bP r.1.1,iP r.1.2])) [tP r.2.src,iP r.2.at_,oT r.2.out]:=by
 unfold DD at h
 refine vM ⟨[0,2,3,4,6,16,17,18,19,24,37],[(1,[9999,0,0,1,2,3,4,5,6,7,8,9]),(10,[9999,1,0,0,1,2,3,4,5,6,7,8,9,10])]⟩ Tryz.func161 follows fun Q b=>?_
 obtain⟨s,hs,h⟩:=Ac h
 obtain⟨f,l,h⟩:=Ac h
 refine mI 3 [(10,fu hs),(1,fk (U4 _ _ l)),(0,fl KU f)] h (fun _=>⟨[(0,.ptr 0 0),(2,bP false),(3,iP 0),(4,tP s)],[[tP r_.src,iP r_.at_,oT r_.out]]⟩) ?_ fun y e h hJ=>?_
 rintro _ h
 obtain⟨s1,a,h⟩:=Ac h
 obtain⟨c,m,h⟩:=Ac h
 refine cD 1 [(1,fu a),(0,fk (ZM _ _ _ m))] h (fun d h=>?_) fun d h=>?_
 cases h
 exact rt 1 [] b
 obtain⟨p,o,h⟩:=Ac h
 cases h
 exact rt 1 [(7,fu a),(0,fm (CJ _ _ _ _ _ _ o))] b
 refine lF 1 [] (A:=Int) (fun n v18=>BR n f s r_ v18) (fun v18=>⟨[(0,.ptr 0 0),(2,bP false),(3,iP 0),(4,tP s),(16,hS f),(17,iP (f.length:Int)),(18,iP v18)],[[tP r_.src,iP r_.at_,oT r_.out]]⟩) 0 e (fun _=>rfl) ?_
 rintro n v18 e ih
 replace e:=(BR.eq_2 ..).symm.trans e
 refine cD 1 [] e (fun g e=>?_) fun g e=>?_
 obtain⟨x,q,e⟩:=Ac e
 obtain⟨t,i,e⟩:=Ac e
 refine cD 3 [(0,fi KU q),(4,fk (ZL _ _ _ i))] e (fun j e=>?_) fun j e=>?_
 obtain⟨p1,k,e⟩:=Ac e
 cases e
 cases h
 exact rt 1 [(7,fm (CJ _ _ _ _ _ _ k))] b
 exact mJ 1 [] (ih _ e)
 exact mJ 1 [] (hJ _ (oj e))
theorem LI (n:Nat)(r_:Al)(r:(Int×Al))(h:DE n r_=some r):Df Tryz.prog 143 [] [tP r_.src,iP r_.at_,oT r_.out] (.ret (iP r.1)) [tP r.2.src,iP r.2.at_,oT r.2.out]:=by
 unfold DE at h
 refine vM ⟨[0,2,4,5,6,7,8,9,17],[]⟩ Tryz.func143 follows fun Q a=>?_
 refine mI 2 [] h (fun (r_1,r_2,r_3)=>⟨[(2,iP 0)],[[tP r_1,iP r_2,oT r_3]]⟩) ?_ fun y e h hJ=>?_
 rintro⟨r_1,r_2,r_3⟩ h
 cases h
 exact rt 1 [] a
 refine lF 1 [] (A:=(Int×ByteArray×Int×(List An))) (fun n (v8,r_4,r_5,r_6)=>Ar n v8 r_4 r_5 r_6) (fun (v8,r_4,r_5,r_6)=>⟨[(0,.ptr 0 0),(2,iP 0),(7,.agg [.fno true 158 [],.fno true 159 [],.fno true 160 [],.fno true 161 []]),(8,iP v8)],[[tP r_4,iP r_5,oT r_6]]⟩) (0,r_.src,r_.at_,r_.out) e (fun _=>rfl) ?_
 rintro n ⟨v8,r_4,r_5,r_6⟩ e ih
 replace e:=(Ar.eq_2 ..).symm.trans e
 replace e:=Ao e
 rcases e with⟨b,e⟩|⟨b,e⟩
 obtain rfl:=NJ b
 obtain⟨n_1,c,e⟩:=Ac e
 refine cD 6 [(5,fm (LJ _ _ _ c))] e (fun i e=>?_) fun i e=>?_
 cases e
 cases h
 exact rt 1 [] a
 exact mJ 1 [] (ih (_,_,_,_) e)
 replace e:=Ao e
 rcases e with⟨d,e⟩|⟨d,e⟩
 obtain rfl:=NJ d
 obtain⟨n_,j,e⟩:=Ac e
 refine cD 6 [(5,fm (Kl _ _ _ j))] e (fun k e=>?_) fun k e=>?_
 cases e
 cases h
 exact rt 1 [] a
 exact mJ 1 [] (ih (_,_,_,_) e)
 replace e:=Ao e
 rcases e with⟨f,e⟩|⟨f,e⟩
 obtain rfl:=NJ f
 obtain⟨t,p,e⟩:=Ac e
 refine cD 6 [(5,fm (LG _ _ _ p))] e (fun l e=>?_) fun l e=>?_
 cases e
 cases h
 exact rt 1 [] a
 exact mJ 1 [] (ih (_,_,_,_) e)
 replace e:=Ao e
 rcases e with⟨g,e⟩|⟨g,e⟩
 obtain rfl:=NJ g
 obtain⟨s,hs,e⟩:=Ac e
 refine cD 6 [(5,fm (LH _ _ _ hs))] e (fun m e=>?_) fun m e=>?_
 cases e
 cases h
 exact rt 1 [] a
 exact mJ 1 [] (ih (_,_,_,_) e)
 replace e:=Ao e
 rcases e with⟨o,e⟩|⟨o,e⟩
 obtain rfl:=NJ o
 exact mJ 3 [] (hJ _ (oj e))
 cases e
theorem Q1 (n:Nat)(src:Å)(r:((List An)×Ak))(h:Hw n src=some r):Cz Tryz.prog 112 [tP src] (.tup [hT r.1,.agg [iP r.2.At,iP r.2.E]]):=by
 unfold Hw at h
 refine vP ⟨[0,2,3,4,5,8,21,27],[(9,[9999,0,0,1,2,3,4,5,6,7])]⟩ Tryz.func112 follows fun Q a=>?_
 refine cD 2 [] h (fun b h=>?_) fun b h=>?_
 cases h
 exact rt 1 [] a
 obtain⟨s,hs,h⟩:=Ac h
 refine mI 2 [(5,fm (HG _ _ _ hs))] h (fun (q,q1,q2)=>⟨[(0,tP src),(2,.sl [] .own),(3,.ptr 0 0),(4,.ptr 1 0)],[[iP 0,iP 0],[tP q,iP q1,oT q2]]⟩) ?_ fun y e h hJ=>?_
 rintro⟨q,q1,q2⟩ h
 obtain⟨p,g,h⟩:=Ac h
 cases h
 exact rt 2 [(3,fm (CJ _ _ _ _ _ _ g))] a
 refine lF 1 [] (A:=(ByteArray×Int×(List An))) (fun n (q3,q4,q5)=>Ci n src q3 q4 q5) (fun (q3,q4,q5)=>⟨[(0,tP src),(2,.sl [] .own),(3,.ptr 0 0),(4,.ptr 1 0)],[[iP 0,iP 0],[tP q3,iP q4,oT q5]]⟩) (s.2.src,s.2.at_,s.2.out) e (fun _=>rfl) ?_
 rintro n ⟨q3,q4,q5⟩ e ih
 replace e:=(Ci.eq_2 ..).symm.trans e
 refine cD 1 [] e (fun c e=>?_) fun c e=>?_
 obtain⟨e1,d,e⟩:=Ac e
 refine cD 3 [(1,fm (LI _ _ _ d))] e (fun i e=>?_) fun i e=>?_
 cases e
 cases h
 exact rt 1 [] a
 obtain⟨s1,f,e⟩:=Ac e
 exact mJ 1 [(1,fm (HG _ _ _ f))] (ih (_,_,_) e)
 exact mJ 1 [] (hJ _ (oj e))
end Go.Proofs.YtehfpameijkafaaGreatDoor
namespace Go.Proofs.YtehfpameijkafaaGreatDoor
open Go Go.Sp Go.Lx Go.Q
set_option maxRecDepth 100000
theorem IN (c:UInt8):Ee (c.toNat:Int)=some (cls c:Int):=by
 have key:∀ k:Fin 256,Ee (k.val:Int)=some (cls (UInt8.ofNat k.val):Int):=by decide +kernel
 have:=key ⟨c.toNat,c.toNat_lt⟩
 simp only [UInt8.ofNat_toNat] at this
 exact this
theorem Gr {s:Å}{j:Nat}(h:j<s.size):gb s (j:Int)=some (s[j].toNat:Int):=by
 unfold gb
 rw [Ç ⟨by omega,by omega⟩,Int.toNat_natCast,<- getD_at s j h]
theorem Abg (c:UInt8):((cls c:Int) != 2) = !isDigit c:=by
 have:=@NG c
 unfold cls
 cases a:BE c<;>cases b:isDigit c<;>cases Dr c<;>first|rfl|simp_all
theorem XC (c:UInt8):((cls c:Int) != 3) = !BE c:=by
 unfold cls
 cases BE c<;>cases isDigit c<;>cases Dr c<;>rfl
theorem TM {src:Å}{j:Nat}(hj:j<=src.size):MC src (j:Int) (src.size:Int)=some (src.extract j src.size)/\(src.extract j src.size).data.toList=(bl src).drop j:=by
 refine⟨?_,?_⟩
 . unfold MC
   rw [Ç (by omega)];rfl
 . show bl (src.extract j src.size)=_
   rw [V6,List.take_of_length_le (by rw [ù,EJ];exact Ü _)]
theorem Nu {out:List An}(hl:out.length<=1000000)(src:Å)(p k q:Int)(s:Å)(v:Int):B5 ⟨src,p,out⟩ k q s v=some (0,⟨src,q,out++[⟨k,p,s,v⟩]⟩):=by
 unfold B5 CH
 rw [Á,Ç (by simp only [æ,ì];omega)];rfl
theorem YQ {src:Å}{p j:Nat}:src.extract p j=⟨⟨((bl src).drop p).take (j-p)⟩⟩:=by
 rw [<- V6 src p j]
theorem PB {src:Å}{a b:Nat}(h1:a<=b)(h2:b<=src.size):MC src (a:Int) (b:Int)=some (src.extract a b):=by
 unfold MC
 rw [Ç (by omega)];rfl
theorem V5 (b:List UInt8):Xs (b.map fun c=>(c.toNat:Int))=⟨⟨b⟩⟩:=by
 unfold Xs
 rw [List.map_map]
 have:((fun n:Int=>UInt8.ofNat n.toNat)∘fun c:UInt8=>(c.toNat:Int))=id:=by funext c;simp
 rw [this,List.map_id]
theorem YA (c:UInt8):(Lib.indexByte [34,92,110] c = -1/\pair c=0)∨∃ i:Nat,Lib.indexByte [34,92,110] c=(i:Int)/\pair c≠0/\gb ⟨#[34,92,10]⟩ (i:Int)=some ((pair c).toNat:Int):=by
 have e:∀ (b:UInt8) (l:List UInt8),Lib.indexByte (b::l) c=if (b == c)=true then 0 else if (Lib.indexByte l c == -1)=true then -1 else Lib.indexByte l c+1:=fun _ _=>rfl
 have e0:Lib.indexByte [] c = -1:=rfl
 unfold pair
 by_cases a:c=34
 . subst a;exact .inr ⟨0,rfl,by decide,by decide⟩
 . by_cases d:c=92
   . subst d;exact .inr ⟨1,rfl,by decide,by decide⟩
   . by_cases f:c=110
     . subst f;exact .inr ⟨2,rfl,by decide,by decide⟩
     . left
       have n1:((34:UInt8) == c)=false:=beq_eq_false_iff_ne.2 fun h=>a h.symm
       have n2:((92:UInt8) == c)=false:=beq_eq_false_iff_ne.2 fun h=>d h.symm
       have n3:((110:UInt8) == c)=false:=beq_eq_false_iff_ne.2 fun h=>f h.symm
       have i3:Lib.indexByte [110] c = -1:=by rw [e,e0,n3];rfl
       have i2:Lib.indexByte [92,110] c = -1:=by rw [e,i3,n2];rfl
       exact⟨by rw [e,i2,n1];rfl,by simp [a,d,f]⟩
theorem Th {b r:List UInt8}{c d:UInt8}(h:b.length<=200)(h34:¬ c=34)(h92:c=92):text b (c::d::r)=if pair d=0 then .bad 28 else text (b++[pair d]) r:=by
 conv=>lhs;unfold text
 rw [Ä (by omega),Ä h34,Ç h92]
theorem Tg {b r:List UInt8}{c:UInt8}(h:b.length<=200)(h34:¬ c=34)(h92:¬ c=92):text b (c::r)=if c<32∨126<c then .bad 28 else text (b++[c]) r:=by
 conv=>lhs;unfold text
 rw [Ä (by omega),Ä h34,Ä h92]
def F7 (r:List UInt8):Option Out:=match sign r with|.bad _=>none|x=>some x
theorem Wq (c:UInt8):∀ (l:List UInt8),decide (0<=Lib.indexByte l c)=decide (c∈l)
 | []=>rfl
 |b::l=>by
  have ih:=Wq c l
  have hge:=Lib.indexByte_ge l c
  have e:Lib.indexByte (b::l) c=if (b == c)=true then 0 else if (Lib.indexByte l c == -1)=true then -1 else Lib.indexByte l c+1:=rfl
  rw [e]
  by_cases hb:b=c
  . subst hb;simp
  . rw [Ä (by simpa using hb)]
    have hm:(c∈b::l)↔c∈l:=⟨fun h=>(List.mem_cons.1 h).resolve_left fun e=>hb e.symm,è _⟩
    rw [decide_eq_decide] at ih ⊢
    rw [hm,<- ih]
    by_cases hn:Lib.indexByte l c = -1
    . rw [Ç (by rw [hn];rfl),hn]
    . rw [Ä (by simpa using hn)];omega
theorem Yn {r l:List UInt8}(h:l.length=2):Lib.hasPrefix r l=decide (r.take 2=l):=by
 unfold Lib.hasPrefix
 rw [Bool.eq_iff_iff,List.isPrefixOf_iff_prefix,List.prefix_iff_eq_take,h,Í]
 exact⟨fun e=>e.symm,fun e=>e.symm⟩
section
variable (src:Å) (p:Nat) (out:List An) (hs:src.size<=1000000)
include hs
theorem Abq:∀ (m j:Nat),j+m=src.size->p<=j->HT isWord src p j->∃ j':Nat,Ev (fun n=>BD n ⟨src,(p:Int),out⟩ 2 (j:Int)) (j':Int)/\p<=j'/\j'<=src.size/\HT isWord src p j'/\Cl isWord ((bl src).drop j')=false
 |0,j,hj,hp,ha=>by
  obtain rfl:j=src.size:=by omega
  refine⟨src.size,Ev.step (fun n=>BD.eq_2 ..) (Ev.of fun n=>?_),hp,Ü _,ha,Ws src _ (Ü _) fun h=>absurd h (Nat.lt_irrefl _)⟩
  simp only [Ë (Int.lt_irrefl _),Ï,Á]
 |m+1,j,hj,hp,ha=>by
  have b:j<src.size:=by omega
  have a:=Ze src[j]
  cases c:isWord src[j] with
  |true =>
   rw [c] at a
   obtain⟨j',d,e⟩:=Abq m (j+1) (by omega) (by omega) (ha.succ hp b c)
   refine⟨j',Ev.step (fun n=>BD.eq_2 ..) ?_,e⟩
   simp only [Ì (show (j:Int)<src.size by omega),Ñ,Gr b,IN,Á,<- a,Qw (show j<4611686018427387904 by omega)]
   exact d
  |false =>
   rw [c] at a
   refine⟨j,Ev.step (fun n=>BD.eq_2 ..) (Ev.of fun n=>?_),hp,by omega,ha,Ws src j (by omega) fun _=>c⟩
   simp only [Ì (show (j:Int)<src.size by omega),Ñ,Gr b,IN,Á,<- a,Ï]
theorem VV (hp:p<=src.size):∃ j:Nat,Ev (fun n=>DB n ⟨src,(p:Int),out⟩ 2) (j:Int)/\p<=j/\j<=src.size/\HT isWord src p j/\Cl isWord ((bl src).drop j)=false:=by
 obtain⟨j,a,b⟩:=Abq src p out hs (src.size-p) p (by omega) (Ü _) (HT.nil _ _ _)
 exact⟨j,Ev.bind a Ev.pure,b⟩
def Nq (src:Å)(j:Nat):Nat:=src.size-(skip false ((bl src).drop j)).length
def skR (src:Å)(out:List An):Int ⊕ (Unit×Al)->Unit×Al
 |.inl q=>((),⟨src,q,out⟩)
 |.inr o=>o
theorem Yf:∀ (m j:Nat),src.size-j<=m->j<=src.size->∃ y,Ev (fun n=>AM n ⟨src,(p:Int),out⟩ (j:Int)) y/\skR src out y=((),⟨src,(Nq src j:Int),out⟩)
 |m,j,hm,hj=>by
  by_cases hlt:j<src.size
  rotate_left
  . obtain rfl:j=src.size:=by omega
    refine⟨.inl (src.size:Int),Ev.step (fun n=>AM.eq_2 ..) (Ev.of fun n=>?_),?_⟩
    . simp only [Ë (Int.lt_irrefl _),Ï]
    . unfold Nq;rw [Mj];rfl
  have a:=Fz src j hlt
  have d1:decide ((j:Int)<src.size)=true:=Ì (by omega)
  obtain⟨m,rfl⟩:∃ m',m=m'+1:=⟨m-1,by omega⟩
  by_cases b:(src[j].toNat:Int)=35
  . have c35:=(eq_iff src[j] 35).2 b
    have f:skip true ((bl src).drop j)=skip false ((bl src).drop j):=by rw [a,No c35,Pe (by rw [c35];decide)]
    have g:=TK ((bl src).drop j)
    have s:Lib.indexByte ((bl src).drop j) 10≠0:=by rw [a,c35];exact Adg
    have t:=Lib.indexByte_ge ((bl src).drop j) 10
    obtain⟨g1,g2⟩:=TM hj
    have e:∀ q:Nat,skip false ((bl src).drop q)=skip false ((bl src).drop j)->j<q->q<=src.size->∃ y,Ev (fun n=>AM n ⟨src,(p:Int),out⟩ (q:Int)) y/\skR src out y=((),⟨src,(Nq src j:Int),out⟩):=by
     intro q c d u
     have:=Yf m q (by omega) u
     unfold Nq at this ⊢
     rwa [c] at this
    by_cases i:Lib.indexByte ((bl src).drop j) 10<0
    . obtain⟨y,c,d⟩:=e src.size (by rw [<- f,g.1 i,Mj];rfl) hlt (Ü _)
      refine⟨y,Ev.step (fun n=>AM.eq_2 ..) ?_,d⟩
      have w1:À ((src.size:Int)-(j:Int))=((src.size-j:Nat):Int):=SU (by omega) (by omega)
      have w2:À ((j:Int)+((src.size-j:Nat):Int))=(src.size:Int):=SU (by omega) (by omega)
      simp only [d1,Ñ,Gr hlt,Á,b,Ă,g1,LX,g2,Ì i,w1,w2,show (10:Int).toNat.toUInt8=10 from rfl]
      exact c
    . obtain⟨k,r⟩:∃ k:Nat,Lib.indexByte ((bl src).drop j) 10=(k:Int):=⟨_,(Int.toNat_of_nonneg (by omega)).symm⟩
      obtain⟨l,o⟩:=g.2 k r
      rw [ù,EJ] at l
      obtain⟨y,c,d⟩:=e (j+k) (by rw [<- f,o,ĥ]) (by omega) (by omega)
      refine⟨y,Ev.step (fun n=>AM.eq_2 ..) ?_,d⟩
      have w1:À ((j:Int)+(k:Int))=((j+k:Nat):Int):=SU (by omega) (by omega)
      simp only [d1,Ñ,Gr hlt,Á,b,Ă,g1,LX,g2,r,Ë (show ¬ (k:Int)<0 by omega),Ï,w1,show (10:Int).toNat.toUInt8=10 from rfl]
      exact c
  . have b35:((src[j].toNat:Int) == 35)=false:=by simpa using b
    cases hb:Dr src[j] with
    |true =>
     obtain⟨y,c,d⟩:=Yf m (j+1) (by omega) (by omega)
     refine⟨y,Ev.step (fun n=>AM.eq_2 ..) ?_,?_⟩
     . simp only [d1,Ñ,Gr hlt,Á,b35,Ï,IN,XF _ hb,show ((1:Nat):Int) == 1 from rfl,Qw (show j<4611686018427387904 by omega)]
       exact c
     . rw [d];unfold Nq;rw [a,Np hb]
    |false =>
     refine⟨.inr ((),⟨src,(j:Int),out⟩),Ev.step (fun n=>AM.eq_2 ..) (Ev.of fun n=>?_),?_⟩
     . simp only [d1,Ñ,Gr hlt,Á,b35,Ï,IN,QI _ hb]
     . have e:Nq src j=j:=by
        unfold Nq
        rw [a,JF,hb,Ä (by simp),Ä (fun h=>b ((eq_iff src[j] 35).1 h)),<- a,ù,EJ];omega
       rw [e];rfl
theorem VY (hp:p<=src.size):Ev (fun n=>DC n ⟨src,(p:Int),out⟩) ((),⟨src,(Nq src p:Int),out⟩):=by
 obtain⟨y,b,c⟩:=Yf src p out hs _ p (Ü _) hp
 refine Ev.bind b ?_
 cases y<;>(rw [<- c];exact Ev.pure)
def LR (src:Å)(p:Nat)(out:List An):Option Out->(Bool×Int)×Al
 |none=>((false,0),⟨src,(p:Int),out⟩)
 |some (.bad e)=>((true,(e:Int)),⟨src,(p:Int),out⟩)
 |some (.ok k s v t)=>((true,0),⟨src,((src.size-t.length:Nat):Int),out++[⟨(k:Int),(p:Int),⟨⟨s⟩⟩,(v:Int)⟩]⟩)
variable (hl:out.length<=1000000)
include hl
theorem Aar (hp:p<src.size):Ev (fun n=>DF n ⟨src,(p:Int),out⟩) (LR src p out (if BE src[p] then some (name ((bl src).drop p)) else none)):=by
 unfold DF
 simp only [Gr hp,IN,Á,XC]
 cases hL:BE src[p] with
 |false=>exact Ev.pure
 |true =>
  simp only [þ,Ï,ø]
  obtain⟨j,g,c,f,i,k⟩:=VV src p out hs (Nat.le_of_lt hp)
  refine Ev.bind g ?_
  have d:=i.while c k
  have a:=Ms src p j c f
  have w1:À ((j:Int)-(p:Int))=((j-p:Nat):Int):=SU (by omega) (by omega)
  rw [w1]
  by_cases b:32<j-p
  . have e:name ((bl src).drop p)=.bad 2:=by unfold name;rw [d.1,a,Ç b]
    rw [e,Ì (by omega)];exact Ev.pure
  . have e:name ((bl src).drop p)=.ok 1 (((bl src).drop p).take (j-p)) 0 ((bl src).drop j):=by unfold name;rw [d.1,d.2,a,Ä b]
    have l:src.size-((bl src).drop j).length=j:=by rw [ù,EJ];omega
    rw [e,Ë (by omega)]
    simp only [Ï,PB c f,Á,Nu hl,LR,l,YQ]
    exact Ev.pure
theorem Xh (hp:p<src.size):Ev (fun n=>CS n ⟨src,(p:Int),out⟩) (LR src p out (if isDigit src[p] then some (number ((bl src).drop p)) else none)):=by
 unfold CS
 simp only [Gr hp,IN,Á,Abg]
 cases hL:isDigit src[p] with
 |false=>exact Ev.pure
 |true =>
  simp only [þ,Ï,ø]
  obtain⟨j,w,l,o,r,s⟩:=VV src p out hs (Nat.le_of_lt hp)
  refine Ev.bind w ?_
  have c:=Ms src p j l o
  have a:=T5 hp l o r s hL
  obtain⟨x,d⟩:∃ x,x=src.extract p j:=⟨_,rfl⟩
  have b:bl x=((bl src).drop p).take (j-p):=by rw [d,V6]
  have y:x.size=j-p:=by rw [<- EJ,b,c]
  have z:=Tm hp l r s (by simp [isWord,hL])
  rw [<- b] at a
  have A:src.size-((bl src).drop j).length=j:=by rw [ù,EJ];omega
  have f:LY x=some ():=by unfold LY;rw [Ç (by omega)]
  rw [PB l o,Á,<- d,f,Á]
  unfold N4 K1
  have bad:number ((bl src).drop p)=.bad 27->LR src p out (some (number ((bl src).drop p)))=((true,27),⟨src,(p:Int),out⟩):=fun h=>by rw [h];rfl
  cases i:Lib.atoiAll x.data.toList with
  |ok v =>
   have q:=a.2 v i
   have k:0<x.size:=by omega
   have t:=YN b k hp
   simp only [Ï]
   have good:¬ 15<j-p->¬ (1<j-p/\src[p]=48)->Ev (fun _:Nat=>(B5 ⟨src,(p:Int),out⟩ 2 (j:Int) ⟨#[]⟩ v).bind fun p=>some ((true,p.1),p.2)) (LR src p out (some (number ((bl src).drop p)))):=by
    intro q1 q2
    have u:=q.2 q1 q2
    rw [u.1,Nu hl]
    have e:(v.toNat:Int)=v:=u.2.symm
    simp only [LR,A,Á,e]
    exact Ev.pure
   by_cases B:15<x.size
   . rw [Ì (show (15:Int)<(x.size:Int) by omega),bad (q.1 (.inl (by omega)))]
     exact Ev.pure
   . rw [Ë (show ¬ (15:Int)<(x.size:Int) by omega)]
     simp only [Ï]
     by_cases C:1<x.size
     . rw [Ì (show (1:Int)<(x.size:Int) by omega)]
       have g:=Gr k
       rw [Int.natCast_zero] at g
       simp only [Ñ,g,Á]
       by_cases m:x[0]=48
       . rw [show ((x[0].toNat:Int) == 48)=true by rw [m];rfl,bad (q.1 (.inr ⟨by omega,by rw [<- t];exact m⟩))]
         exact Ev.pure
       . rw [show ((x[0].toNat:Int) == 48)=false from beq_eq_false_iff_ne.2 fun h=>m ((eq_iff _ 48).2 h)]
         exact good (by omega) (fun h=>m (by rw [t];exact h.2))
     . rw [Ë (show ¬ (1:Int)<(x.size:Int) by omega)]
       exact good (by omega) (fun h=>by omega)
  |_ =>
   rw [bad (a.1 fun v=>by rw [show bl x=x.data.toList from rfl,i];simp)]
   exact Ev.pure
def txR (r:Al):Unit ⊕ ((Bool×Int)×Al)->(Bool×Int)×Al
 |.inl _=>((true,2),r)
 |.inr o=>o
theorem XX:∀ (m:Nat) (b:List UInt8) (k:Nat),src.size-k<=m->k<=src.size->b.length<=201 ->
 ∃ y,Ev (fun n=>A6 n ⟨src,(p:Int),out⟩ (b.map fun c=>(c.toNat:Int)) (k:Int)) y/\txR ⟨src,(p:Int),out⟩ y=LR src p out (some (text b ((bl src).drop k)))
 |m,b,k,hm,hk,hb=>by
  have fin:∀ {y R},Ev (fun n=>A6 (n+1) ⟨src,(p:Int),out⟩ (b.map fun c=>(c.toNat:Int)) (k:Int)) y->text b ((bl src).drop k)=R->txR ⟨src,(p:Int),out⟩ y=LR src p out (some R) ->
   ∃ y,Ev (fun n=>A6 n ⟨src,(p:Int),out⟩ (b.map fun c=>(c.toNat:Int)) (k:Int)) y/\txR ⟨src,(p:Int),out⟩ y=LR src p out (some (text b ((bl src).drop k))):=by
   rintro y R l rfl o
   exact⟨y,Ev.step (fun n=>rfl) l,o⟩
  by_cases d:b.length<=200
  rotate_left
  . refine fin (y:=.inl ()) (R:=.bad 2) (Ev.of fun n=>?_) ?_ rfl
    . rw [A6.eq_2,Î,Ë (by omega)];rfl
    . cases (bl src).drop k with
      |nil=>unfold text;rw [Ç (by omega)]
      |cons c r=>unfold text;rw [Ç (by omega)]
  have d1:decide ((b.length:Int)<=200)=true:=Ì (by omega)
  by_cases a:k<src.size
  rotate_left
  . obtain rfl:k=src.size:=by omega
    refine fin (y:=.inr ((true,28),⟨src,(p:Int),out⟩)) (R:=.bad 28) (Ev.of fun n=>?_) ?_ rfl
    . rw [A6.eq_2,Î,d1,Ì (Int.le_refl _)];rfl
    . rw [Mj];unfold text;rw [Ä (by omega)]
  have e:=Fz src k a
  have d2:decide ((src.size:Int)<=(k:Int))=false:=Ë (by omega)
  have w2:=Qw (show k<4611686018427387904 by omega)
  obtain⟨m,rfl⟩:∃ m',m=m'+1:=⟨m-1,by omega⟩
  have app:∀ c:UInt8,CH 1 (b.map fun c=>(c.toNat:Int)) [(c.toNat:Int)]=some ((b++[c]).map fun c=>(c.toNat:Int)):=fun c=>by
   unfold CH
   rw [Ç (by simp only [Î,æ,ì];omega),ā];rfl
  by_cases c34:src[k]=34
  . refine fin (y:=.inr ((true,0),⟨src,((k+1:Nat):Int),out++[⟨3,(p:Int),⟨⟨b⟩⟩,0⟩]⟩)) (R:=.ok 3 b 0 ((bl src).drop (k+1))) (Ev.of fun n=>?_) ?_ ?_
    . rw [A6.eq_2]
      simp only [Î,d1,d2,Ñ,Ï,Gr a,Á,show ((src[k].toNat:Int) == 34)=true by rw [c34];rfl,w2,V5,Nu hl]
    . rw [e];unfold text;rw [Ä (by omega),Ç c34]
    . simp only [LR,txR]
      rw [ù,EJ,show src.size-(src.size-(k+1))=k+1 by omega];rfl
  have b1:((src[k].toNat:Int) == 34)=false:=beq_eq_false_iff_ne.2 fun h=>c34 ((eq_iff _ 34).2 h)
  by_cases c92:src[k]=92
  . have b2:((src[k].toNat:Int) == 92)=true:=by rw [c92];rfl
    by_cases g:k+1<src.size
    . have f:=Fz src (k+1) g
      have d3:decide (((k+1:Nat):Int)<(src.size:Int))=true:=Ì (by omega)
      have w3:=Qw (show k+1<4611686018427387904 by omega)
      have v:LX ⟨#[34,92,110]⟩ (src[k+1].toNat:Int)=some (Lib.indexByte [34,92,110] src[k+1]):=by
       unfold LX
       congr 2
       simp
      rcases YA src[k+1] with⟨t,j⟩|⟨i,t,j,u⟩
      . refine fin (y:=.inr ((true,28),⟨src,(p:Int),out⟩)) (R:=.bad 28) (Ev.of fun n=>?_) ?_ rfl
        . rw [A6.eq_2]
          simp only [Î,d1,d2,Ñ,Ï,Gr a,Á,b1,b2,w2,d3,Gr g,v,t];rfl
        . rw [e,f,Th d c34 c92,Ç j]
      . obtain⟨y,l,o⟩:=XX m (b++[pair src[k+1]]) (k+2) (by omega) (by omega) (by simp only [Ô,æ,ì];omega)
        refine fin (y:=y) ?_ (by rw [e,f,Th d c34 c92,Ä j]) o
        refine Ev.congr l fun n=>?_
        rw [A6.eq_2]
        simp only [Î,d1,d2,Ñ,Ï,Gr a,Á,b1,b2,w2,d3,Gr g,v,t,Ë (show ¬ (i:Int)<0 by omega),u,app,w3]
    . refine fin (y:=.inr ((true,28),⟨src,(p:Int),out⟩)) (R:=.bad 28) (Ev.of fun n=>?_) ?_ rfl
      . rw [A6.eq_2]
        simp only [Î,d1,d2,Ñ,Ï,Gr a,Á,b1,b2,w2,Ë (show ¬ ((k+1:Nat):Int)<(src.size:Int) by omega)];rfl
      . rw [e,show (bl src).drop (k+1)=[] from by rw [show k+1=src.size by omega];exact Mj src]
        unfold text;rw [Ä (by omega),Ä c34,Ç c92]
  have b2:((src[k].toNat:Int) == 92)=false:=beq_eq_false_iff_ne.2 fun h=>c92 ((eq_iff _ 92).2 h)
  have ev:((bif decide ((src[k].toNat:Int)<32) then some true else some (decide (126<(src[k].toNat:Int)))):Option Bool)=some (decide (src[k]<32∨126<src[k])):=by
   have e1:src[k]<32↔(src[k].toNat:Int)<32:=by rw [UInt8.lt_iff_toNat_lt];exact⟨fun h=>by have:(32:UInt8).toNat=32:=rfl;omega,fun h=>by have:(32:UInt8).toNat=32:=rfl;omega⟩
   have e2:126<src[k]↔(126:Int)<(src[k].toNat:Int):=by rw [UInt8.lt_iff_toNat_lt];exact⟨fun h=>by have:(126:UInt8).toNat=126:=rfl;omega,fun h=>by have:(126:UInt8).toNat=126:=rfl;omega⟩
   rw [show decide (src[k]<32∨126<src[k])=decide ((src[k].toNat:Int)<32∨(126:Int)<(src[k].toNat:Int)) from decide_eq_decide.2 (or_congr e1 e2)]
   by_cases q:(src[k].toNat:Int)<32<;>simp [q]
  by_cases s:src[k]<32∨126<src[k]
  . refine fin (y:=.inr ((true,28),⟨src,(p:Int),out⟩)) (R:=.bad 28) (Ev.of fun n=>?_) ?_ rfl
    . rw [A6.eq_2]
      simp only [Î,d1,d2,Ñ,Ï,Gr a,Á,b1,b2,ev,Ì s]
    . rw [e,Tg d c34 c92,Ç s]
  . obtain⟨y,l,o⟩:=XX m (b++[src[k]]) (k+1) (by omega) (by omega) (by simp only [Ô,æ,ì];omega)
    refine fin (y:=y) ?_ (by rw [e,Tg d c34 c92,Ä s]) o
    refine Ev.congr l fun n=>?_
    rw [A6.eq_2]
    simp only [Î,d1,d2,Ñ,Ï,Gr a,Á,b1,b2,ev,Ë s,app,w2]
theorem ZS (hp:p<src.size):Ev (fun n=>DA n ⟨src,(p:Int),out⟩) (LR src p out (if src[p]=34 then some (text [] ((bl src).drop (p+1))) else none)):=by
 unfold DA
 simp only [Gr hp,Á]
 by_cases a:src[p]=34
 . rw [Ç a,show ((src[p].toNat:Int) != 34)=false by rw [a];rfl,Qw (show p<4611686018427387904 by omega)]
   obtain⟨y,b,c⟩:=XX src p out hs hl _ [] (p+1) (Ü _) (by omega) (by simp)
   refine Ev.bind b ?_
   rw [<- c]
   cases y<;>exact Ev.pure
 . rw [Ä a,show ((src[p].toNat:Int) != 34)=true from bne_iff_ne.2 fun h=>a ((eq_iff _ 34).2 h)]
   exact Ev.pure
theorem Abr {x:Å}(hx:bl x=(bl src).drop p):∀ (r:List (List UInt8)) (i:Nat),Lx.long.drop i=r->i<=9 ->
 Ev (fun n=>BR n (Lx.long.map fun l=>⟨⟨l⟩⟩) x ⟨src,(p:Int),out⟩ (i:Int)) (if ((bl src).drop p).take 2∈r then .inr ((true,0),⟨src,((p+2:Nat):Int),out++[⟨4,(p:Int),⟨⟨((bl src).drop p).take 2⟩⟩,0⟩]⟩) else .inl ())
 | [],i,hr,hi=>by
  have:=MN hr hi
  refine Ev.step (fun n=>BR.eq_2 ..) (Ev.of fun n=>?_)
  rw [Î,Ë (by omega)];rfl
 |l::r,i,hr,hi=>by
  obtain⟨h1,h2⟩:=Ha hr
  have hm:l∈Lx.long:=í (by rw [hr];simp)
  have h22:l.length=2:=(show ∀ l∈Lx.long,l.length=2 by decide) l hm
  have h29:i<9:=h2
  have hg:gi (Lx.long.map fun l=>(⟨⟨l⟩⟩:Å)) (i:Int)=some ⟨⟨l⟩⟩:=Sn (r:=r.map fun l=>⟨⟨l⟩⟩) (by rw [<- List.map_drop,hr];rfl)
  refine Ev.step (fun n=>BR.eq_2 ..) ?_
  simp only [Î,Uz h2,Ñ,hg,Á,Vc,show x.data.toList=(bl src).drop p from hx,Yn h22,Qw (show i<4611686018427387904 by omega)]
  by_cases hp2:((bl src).drop p).take 2=l
  . have w2:À ((p:Int)+2)=((p+2:Nat):Int):=SU (by omega) (by
     have:=congrArg List.length hp2
     rw [List.length_take,ù,EJ,h22] at this
     omega)
    rw [Ì hp2,Ç (by rw [hp2];simp)]
    simp only [Ñ,Nu hl,Á,w2,hp2]
    exact Ev.pure
  . rw [Ë hp2]
    have e:(if ((bl src).drop p).take 2∈l::r then Sum.inr ((true,0),(⟨src,((p+2:Nat):Int),out++[⟨4,(p:Int),⟨⟨((bl src).drop p).take 2⟩⟩,0⟩]⟩:Al)) else Sum.inl ():Unit ⊕ ((Bool×Int)×Al))=if ((bl src).drop p).take 2∈r then .inr ((true,0),⟨src,((p+2:Nat):Int),out++[⟨4,(p:Int),⟨⟨((bl src).drop p).take 2⟩⟩,0⟩]⟩) else .inl ():=by
     simp only [List.mem_cons,hp2,false_or]
    rw [e]
    exact Abr hx r (i+1) h1 (by omega)
theorem ZZ (hp:p<src.size):Ev (fun n=>DD n ⟨src,(p:Int),out⟩) (LR src p out (F7 ((bl src).drop p))):=by
 unfold DD
 obtain⟨g1,g2⟩:=TM (src:=src) (j:=p) (by omega)
 obtain⟨X,hX⟩:∃ X,X=src.extract p src.size:=⟨_,rfl⟩
 rw [<- hX] at g1 g2
 have d:bl X=(bl src).drop p:=g2
 simp only [g1,Á,show Lc ⟨#[45,62,32,58,61,32,61,61,32,33,61,32,60,61,32,62,61,32,38,38,32,124,124,32,46,46]⟩=some (Lx.long.map fun l=>⟨⟨l⟩⟩) from rfl]
 refine Ev.bind (Abr src p out hs hl d Lx.long 0 rfl (by decide)) ?_
 have e:=Fz src p hp
 have g:((bl src).drop p).length=src.size-p:=by rw [ù,EJ]
 by_cases f:((bl src).drop p).take 2∈Lx.long
 . rw [Ç f]
   have q:2<=src.size-p:=by
    have k:(((bl src).drop p).take 2).length=2:=(show ∀ l∈Lx.long,l.length=2 by decide) _ f
    rw [List.length_take] at k;omega
   have i:F7 ((bl src).drop p)=some (.ok 4 (((bl src).drop p).take 2) 0 ((bl src).drop (p+2))):=by
    unfold F7 sign;rw [Ç f,ĥ]
   rw [i]
   simp only [LR,ù,EJ,show src.size-(src.size-(p+2))=p+2 by omega]
   exact Ev.pure
 . rw [Ä f]
   have m:1<=X.size:=by rw [<- EJ,d,g];omega
   have o:X.extract 0 1=⟨#[src[p]]⟩:=by
    rw [YQ,List.drop_zero,d,e];rfl
   have g3:MC X 0 1=some ⟨#[src[p]]⟩:=by
    have:=PB (src:=X) (a:=0) (b:=1) (by omega) m
    rw [o] at this
    exact this
   have r:Si ⟨#[40,41,123,125,91,93,44,59,58,46,43,45,42,47,37,60,62,61,33,38,124,64,63,94,126]⟩ ⟨#[src[p]]⟩=some (decide (src[p]∈Lx.short)):=by
    show some (decide (0<=Lib.indexByte Lx.short src[p]))=_
    rw [Wq]
   simp only [g3,r,Á]
   by_cases c:src[p]∈Lx.short
   . have i:F7 ((bl src).drop p)=some (.ok 4 [src[p]] 0 ((bl src).drop (p+1))):=by
      unfold F7 sign;rw [Ä f,e];simp only;rw [Ç c]
     rw [i,Ì c]
     simp only [þ,Ï,Nu hl,Á,Qw (show p<4611686018427387904 by omega),LR,ù,EJ,show src.size-(src.size-(p+1))=p+1 by omega]
     exact Ev.pure
   . have i:F7 ((bl src).drop p)=none:=by
      unfold F7 sign;rw [Ä f,e];simp only;rw [Ä c]
     rw [i,Ë c]
     exact Ev.pure
def nxO (src:Å)(p:Nat)(out:List An)(o:Out):Int×Al:=((LR src p out (some o)).1.2,(LR src p out (some o)).2)
theorem Aao (hp:p<src.size):Ev (fun n=>DE n ⟨src,(p:Int),out⟩) (nxO src p out (Lx.tok ((bl src).drop p))):=by
 have g:=Fz src p hp
 have t1:=Aar src p out hs hl hp
 have t2:=Xh src p out hs hl hp
 have t3:=ZS src p out hs hl hp
 have t4:=ZZ src p out hs hl hp
 have a:Lx.tok ((bl src).drop p)=if BE src[p] then name ((bl src).drop p) else if isDigit src[p] then number ((bl src).drop p) else if src[p]=34 then text [] ((bl src).drop (p+1)) else sign ((bl src).drop p):=by
  rw [g];rfl
 have rd1:∀ o:Out,(LR src p out (some o)).1.1=true:=fun o=>by cases o<;>rfl
 have rd0:LR src p out none=((false,0),⟨src,(p:Int),out⟩):=rfl
 unfold DE
 have key:∃ y,Ev (fun n=>Ar n 0 src (p:Int) out) y/\(match y with|.inl (r_1,r_2,r_3)=>(26,Al.mk r_1 r_2 r_3)|.inr o=>o)=nxO src p out (Lx.tok ((bl src).drop p)):=by
  by_cases d:BE src[p]=true
  . rw [Ç d] at t1 a
    refine⟨.inr _,Ev.step (fun n=>Ar.eq_2 ..) (Ev.bind t1 ?_),by rw [a]⟩
    simp only [rd1,Ñ];exact Ev.pure
  rw [Ä d] at t1 a
  have s1:∀ {y},Ev (fun n=>Ar n 1 src (p:Int) out) y->Ev (fun n=>Ar n 0 src (p:Int) out) y:=fun h=>Ev.step (fun n=>Ar.eq_2 ..) (Ev.bind t1 (by simp only [rd0,Ï];exact h))
  by_cases f:isDigit src[p]=true
  . rw [Ç f] at t2 a
    refine⟨.inr _,s1 (Ev.step (fun n=>Ar.eq_2 ..) (Ev.bind t2 ?_)),by rw [a]⟩
    simp only [rd1,Ñ];exact Ev.pure
  rw [Ä f] at t2 a
  have s2:∀ {y},Ev (fun n=>Ar n 2 src (p:Int) out) y->Ev (fun n=>Ar n 0 src (p:Int) out) y:=fun h=>s1 (Ev.step (fun n=>Ar.eq_2 ..) (Ev.bind t2 (by simp only [rd0,Ï];exact h)))
  by_cases i:src[p]=34
  . rw [Ç i] at t3 a
    refine⟨.inr _,s2 (Ev.step (fun n=>Ar.eq_2 ..) (Ev.bind t3 ?_)),by rw [a]⟩
    simp only [rd1,Ñ];exact Ev.pure
  rw [Ä i] at t3 a
  have s3:∀ {y},Ev (fun n=>Ar n 3 src (p:Int) out) y->Ev (fun n=>Ar n 0 src (p:Int) out) y:=fun h=>s2 (Ev.step (fun n=>Ar.eq_2 ..) (Ev.bind t3 (by simp only [rd0,Ï];exact h)))
  cases b:F7 ((bl src).drop p) with
  |some o =>
   rw [b] at t4
   have j:sign ((bl src).drop p)=o:=by
    unfold F7 at b
    split at b
    . cases b
    . exact Af b
   refine⟨.inr _,s3 (Ev.step (fun n=>Ar.eq_2 ..) (Ev.bind t4 ?_)),by rw [a,j]⟩
   simp only [rd1,Ñ];exact Ev.pure
  |none =>
   rw [b] at t4
   have hb:sign ((bl src).drop p)=.bad 26:=by
    unfold F7 at b
    split at b
    . rename_i e c
      unfold sign at c ⊢
      split at c
      . cases c
      . rename_i k
        rw [Ä k]
        split at c
        . rfl
        . split at c
          . cases c
          . rename_i hs;rw [Ä hs]
    . cases b
   refine⟨.inl (src,(p:Int),out),s3 (Ev.step (fun n=>Ar.eq_2 ..) (Ev.bind t4 ?_)),by rw [a,hb];rfl⟩
   simp only [rd0,Ï]
   exact Ev.step (fun n=>Ar.eq_2 ..) (Ev.of fun n=>rfl)
 obtain⟨y,d,f⟩:=key
 refine Ev.bind d ?_
 rw [<- f]
 rcases y with⟨r_1,r_2,r_3⟩|o<;>exact Ev.pure
end
theorem WL (src:Å):Ev (fun n=>Hw n src) (IH src):=by
 unfold Hw IH
 by_cases g:65536<src.size
 . rw [Ç g,Ì (by omega)];exact Ev.pure
 rw [Ä g,Ë (by omega)]
 have hs:src.size<=1000000:=by omega
 have d:=VZ src 0
 rw [List.drop_zero] at d
 have loop:∀ (m p:Nat) (L:List Tok),src.size-p<=m->p<=src.size->L.length<=p->Qs src.size (skip false (bl src)) L ((bl src).drop p) ->
  ∃ y,Ev (fun n=>Ci n src src (p:Int) (L.map ZR)) y/\((∃ L',y=.inl (src,(src.size:Int),L'.map ZR)/\L'.length<=src.size/\Lx.Good src.size (skip false (bl src)) (L'++[⟨5,src.size,[],0⟩]))∨∃ q e:Nat,y=.inr ([],⟨(q:Int),(e:Int)⟩)/\Lx.Bad src.size (skip false (bl src)) q e):=by
  intro m
  induction m with
  |zero =>
   intro p L C D hL b
   obtain rfl:p=src.size:=by omega
   refine⟨_,Ev.step (fun n=>Ci.eq_2 ..) (Ev.of fun n=>by rw [Ë (Int.lt_irrefl _)];rfl),.inl ⟨L,rfl,hL,b.1 _ ?_⟩⟩
   rw [Mj];exact .fin
  |succ m ih =>
   intro p L C D hL b
   by_cases i:p<src.size
   rotate_left
   . obtain rfl:p=src.size:=by omega
     refine⟨_,Ev.step (fun n=>Ci.eq_2 ..) (Ev.of fun n=>by rw [Ë (Int.lt_irrefl _)];rfl),.inl ⟨L,rfl,hL,b.1 _ ?_⟩⟩
     rw [Mj];exact .fin
   have u:(bl src).drop p≠[]:=by rw [Fz src p i];simp
   have j:((bl src).drop p).length=src.size-p:=by rw [ù,EJ]
   have l:=Aao src p (L.map ZR) hs (by rw [Î];omega) i
   cases a:Lx.tok ((bl src).drop p) with
   |bad e =>
    rw [a] at l
    have E:=RF a
    refine⟨_,Ev.step (fun n=>Ci.eq_2 ..) ?_,.inr ⟨p,e,rfl,?_⟩⟩
    . simp only [Ì (show (p:Int)<src.size by omega),Ñ]
      refine Ev.bind l ?_
      simp only [nxO,LR,show ((e:Int) != 0)=true from bne_iff_ne.2 (by omega),Ñ]
      exact Ev.pure
    . have hb:=b.2 _ _ (Lx.Bad.here u a)
      rwa [j,show src.size-(src.size-p)=p by omega] at hb
   |ok k s v t =>
    rw [a] at l
    have w:=Wb src p (QM a).2.1
    have F:=RE a
    have f:=VZ src (src.size-t.length)
    rw [w.1] at f
    have G:=FZ false t
    have c:=b.cons a
    rw [j,show src.size-(src.size-p)=p by omega] at c
    obtain⟨y,o,z⟩:=ih (src.size-(skip false t).length) (L++[⟨k,p,s,v⟩]) (by omega) f.2 (by simp only [Ô,æ,ì];omega) (by rw [f.1];exact c)
    refine⟨y,Ev.step (fun n=>Ci.eq_2 ..) ?_,z⟩
    simp only [Ì (show (p:Int)<src.size by omega),Ñ]
    refine Ev.bind l ?_
    simp only [nxO,LR,Đ,Ï]
    refine Ev.bind (VY src _ _ hs w.2) ?_
    have e:(Nq src (src.size-t.length))=src.size-(skip false t).length:=by unfold Nq;rw [w.1]
    rw [e]
    rw [ā] at o
    exact o
 simp only [Ï]
 refine Ev.bind (VY src 0 [] hs (Ĉ _)) ?_
 have e0:Nq src 0=src.size-(skip false (bl src)).length:=by unfold Nq;rw [List.drop_zero]
 obtain⟨y,o,z⟩:=loop _ (Nq src 0) [] (Ü _) (by rw [e0];exact d.2) (Ĉ _) (by rw [e0,d.1];exact Qs.nil _ _)
 refine Ev.bind o ?_
 rcases z with⟨L',rfl,hl,r⟩|⟨q,e,rfl,hb⟩
 . cases a:Lx.tokens src.data.toList with
   |ok ts =>
    have A:Lx.Good src.size (skip false (bl src)) ts:=HZ a
    have:=A.unique r
    subst this
    simp only [Nu (show (L'.map ZR).length<=1000000 by rw [Î];omega),Á,ā]
    exact Ev.pure
   |error x =>
    obtain⟨q,e⟩:=x
    have hb:Lx.Bad src.size (skip false (bl src)) q e:=LK a
    exact (r.notBad hb).elim
 . cases a:Lx.tokens src.data.toList with
   |ok ts =>
    have r:Lx.Good src.size (skip false (bl src)) ts:=HZ a
    exact (r.notBad hb).elim
   |error x =>
    obtain⟨q',e'⟩:=x
    have B:Lx.Bad src.size (skip false (bl src)) q' e':=LK a
    obtain⟨rfl,rfl⟩:=B.unique hb
    exact Ev.pure
end Go.Proofs.YtehfpameijkafaaGreatDoor
namespace Go.Proofs.YtehfpameijkafaaGreatDoor
open Go.RowKit Go.Q Go.Vl Go.Sp Go.Lx
theorem XT (src:Å)(t:List An×Ak)(h:IG src=some t):Cz Tryz.prog 112 [tP src] (.tup [hP t.1 E1,.agg [iP t.2.At,iP t.2.E]]):=by
 obtain rfl:=Af h
 obtain⟨n,a⟩:=(WL src).get
 exact Q1 n src _ a
end Go.Proofs.YtehfpameijkafaaGreatDoor
namespace Go.Proofs.YtehfpameijkafaaGreatDoor
open Go.RowKit Go.Q Go.Vl Go.Sp
set_option maxRecDepth 100000
set_option linter.unusedSimpArgs false
set_option maxHeartbeats 4000000
set_option linter.unusedVariables false
theorem HW (n:Nat)(q:Int)(q1:Int)(out:(List Au))(bad:Int)(bad1:Int)(q2:(List An))(q3:Int)(r:(Ex Aq ((List Au)×(List An)×Int) Unit))(h:Fx n q q1 out bad bad1 q2 q3=some r):J9 r (fun v0 s0=>I2 Tryz.prog 69 [.ptr 3 0,.ptr 1 0] [[iP q,iP q1],[oF out],[iP bad,iP bad1],[hT q2,iP q3]] (.ret (.tup [])) [[iP q,iP q1],[oF s0.1],[iP bad,iP bad1],[hT s0.2.1,iP s0.2.2]]) (fun e0 s0=>I2 Tryz.prog 69 [.ptr 3 0,.ptr 1 0] [[iP q,iP q1],[oF out],[iP bad,iP bad1],[hT q2,iP q3]] (.pan [{ v:=.iface 188 (.agg #[(.int .i64 e0.At),(.int .i64 e0.E)]),recovered:=false }]) [[iP q,iP q1],[oF s0.1],[iP bad,iP bad1],[hT s0.2.1,iP s0.2.2]]):=by
 unfold Fx at h
 refine vSx ⟨[0,1,10],[(1,[9997,1,3,0,1,3,2,4,5,6,7,8])]⟩ Tryz.func69 follows fun Q c=>?_
 refine mI 0 [] h (fun (out1,q4,q5)=>⟨[],[[iP q,iP q1],[oF out1],[iP bad,iP bad1],[hT q4,iP q5]]⟩) ?_ fun y e h hJ=>?_
 rintro⟨out1,q4,q5⟩ h
 cases h
 exact rt 0 [] c
 refine lF 1 [] (A:=((List Au)×(List An)×Int)) (fun n (out2,q6,q7)=>DO n out2 q6 q7) (fun (out2,q6,q7)=>⟨[(0,.ptr 3 0),(1,.ptr 1 0)],[[iP q,iP q1],[oF out2],[iP bad,iP bad1],[hT q6,iP q7]]⟩) (out,q2,q3) e (fun _=>rfl) ?_
 rintro n ⟨out2,q6,q7⟩ e ih
 replace e:=(DO.eq_2 ..).symm.trans e
 obtain⟨x,d,e⟩:=Ac e
 refine cD 1 [(4,fi Cg d)] e (fun g e=>?_) fun g e=>?_
 refine wl 1 [] ?_
 refine yE e (fun f s a e=>?_) fun e1 s1 a e=>?_
 obtain⟨out3,b,e⟩:=Ac e
 refine xG [3] [0,1,3] 2 4 5 6 7 8 [.no,.no,.val (iP (out2.length:Int))] (.meth (.agg (kF f)) [hT s.l,iP s.forms]) .no (out3.map Ch) ⟨[(0,.ptr 3 0),(1,.ptr 1 0)],[[iP q,iP q1],[oF out3],[iP bad,iP bad1],[hT s.l,iP s.forms]]⟩ (And.intro (And.intro (Xe out2 Ch) True.intro) (And.intro (And.intro (And.intro (Eh n (Ab.mk q6 q7) 1 (.ok f s) a) True.intro) (Abt b Gy (FB f))) (And.intro (And.intro (Eh n (Ab.mk q6 q7) 1 (.ok f s) a) True.intro) (Abt b Gy (FB f))))) ?_
 exact mJ 0 [] (ih (_,_,_) e)
 cases e
 cases h
 exact xGP [3] [0,1,3] 2 4 5 6 7 8 [.no,.no,.val (iP (out2.length:Int))] (.mpan [{ v:=.iface 188 (.agg #[(.int .i64 e1.At),(.int .i64 e1.E)]),recovered:=false }] [hT s1.l,iP s1.forms]) .no (And.intro (And.intro (Xe out2 Ch) True.intro) (And.intro (And.intro (Eh n (Ab.mk q6 q7) 1 (.pan e1 s1) a) True.intro) (And.intro (Eh n (Ab.mk q6 q7) 1 (.pan e1 s1) a) True.intro))) c
 exact mJ 1 [] (hJ _ (oj e))
theorem JE (d0:Int)(d1:Int)(d2:(List Au))(d3:Int)(d4:Int)(d5:(List An))(d6:Int):R6 Tryz.prog 113 [.ptr 2 0] [[iP d0,iP d1],[oF d2],[iP d3,iP d4],[hT d5,iP d6]] .returning (fun y u' σ'=>u'=.returning/\y=.ret (.tup [])/\σ'=[[iP d0,iP d1],[oF d2],[iP d3,iP d4],[hT d5,iP d6]]):=by
 refine R6.intro (rv:=.nilIface) ⟨[0,1,2,3,6,13],[]⟩ Tryz.func113 rfl follows rfl (fun _ _=>rfl) rfl rfl (.inl ⟨rfl,rfl,rfl⟩) (by kernel_rfl) ?_
 refine Aec [0,1,2,3,6,13] [0,1] [.no] ⟨[(0,.ptr 2 0),(1,.lit .nilIface)],[[iP d0,iP d1],[oF d2],[iP d3,iP d4],[hT d5,iP d6]]⟩ True.intro (by kernel_rfl) ?_
 repeat first|apply z1|apply z2|apply z3|apply z4
 refine wr [0,1,6] 4 (DP 2 []) ⟨[(0,.ptr 2 0),(1,.lit .nilIface),(6,bP false)],[[iP d0,iP d1],[oF d2],[iP d3,iP d4],[hT d5,iP d6]]⟩ True.intro (by kernel_rfl) ?_
 repeat first|apply z1|apply z2|apply z3|apply z4
 refine Ew rfl ?_
 repeat first|apply z1|apply z2|apply z3|apply z4
 exact HS (Tq (by rintro y rfl;exact⟨rfl,rfl,rfl⟩) (by kernel_rfl)).1
theorem JD (d0:Int)(d1:Int)(d2:(List Au))(d3:Int)(d4:Int)(d5:(List An))(d6:Int)(e0:Aq):R6 Tryz.prog 113 [.ptr 2 0] [[iP d0,iP d1],[oF d2],[iP d3,iP d4],[hT d5,iP d6]] (.panicking [{ v:=.iface 188 (.agg #[(.int .i64 e0.At),(.int .i64 e0.E)]),recovered:=false }]) (fun y u' σ'=>settle u'=.returning/\y=.ret (.tup [])/\σ'=[[iP d0,iP d1],[oF d2],[iP e0.At,iP e0.E],[hT d5,iP d6]]):=by
 refine R6.intro (rv:=(.iface 188 (.agg #[(.int .i64 e0.At),(.int .i64 e0.E)]))) ⟨[0,1,2,3,6,13],[]⟩ Tryz.func113 rfl follows rfl (fun _ _=>rfl) rfl rfl (.inr ⟨[],rfl,rfl⟩) (by kernel_rfl) ?_
 refine Aec [0,1,2,3,6,13] [0,1] [.no] ⟨[(0,.ptr 2 0),(1,.lit (.iface 188 (.agg #[(.int .i64 e0.At),(.int .i64 e0.E)])))],[[iP d0,iP d1],[oF d2],[iP d3,iP d4],[hT d5,iP d6]]⟩ True.intro (by kernel_rfl) ?_
 repeat first|apply z1|apply z2|apply z3|apply z4
 refine wr [0,1,6] 4 (DP 2 []) ⟨[(0,.ptr 2 0),(1,.lit (.iface 188 (.agg #[(.int .i64 e0.At),(.int .i64 e0.E)]))),(6,bP true)],[[iP d0,iP d1],[oF d2],[iP d3,iP d4],[hT d5,iP d6]]⟩ True.intro (by kernel_rfl) ?_
 repeat first|apply z1|apply z2|apply z3|apply z4
 refine FE rfl ?_
 repeat first|apply z1|apply z2|apply z3|apply z4
 refine wr [0,1,2,3] 5 (DP 8 []) ⟨[(0,.ptr 2 0),(1,.lit (.iface 188 (.agg #[(.int .i64 e0.At),(.int .i64 e0.E)]))),(2,.ptr 4 0),(3,bP true)],[[iP d0,iP d1],[oF d2],[iP d3,iP d4],[hT d5,iP d6],[iP e0.At,iP e0.E]]⟩ True.intro (by kernel_rfl) ?_
 repeat first|apply z1|apply z2|apply z3|apply z4
 refine wr [0,1,2,13] 5 (DP 2 []) ⟨[(0,.ptr 2 0),(1,.lit (.iface 188 (.agg #[(.int .i64 e0.At),(.int .i64 e0.E)]))),(2,.ptr 4 0),(13,bP false)],[[iP d0,iP d1],[oF d2],[iP d3,iP d4],[hT d5,iP d6],[iP e0.At,iP e0.E]]⟩ True.intro (by kernel_rfl) ?_
 repeat first|apply z1|apply z2|apply z3|apply z4
 refine Ew rfl ?_
 repeat first|apply z1|apply z2|apply z3|apply z4
 refine wr [] 5 (DP 2 []) ⟨[],[[iP d0,iP d1],[oF d2],[iP e0.At,iP e0.E],[hT d5,iP d6],[iP e0.At,iP e0.E]]⟩ True.intro (by kernel_rfl) ?_
 repeat first|apply z1|apply z2|apply z3|apply z4
 exact HS (Tq (by rintro y rfl;exact⟨rfl,rfl,rfl⟩) (by kernel_rfl)).1
theorem LF (n:Nat)(q:Int)(q1:Int)(out:(List Au))(src:Å)(r:(Ak×(List Au)))(h:Es n q q1 out src=some r)(Q:Cb->List (List PV)->Prop)(hQ:∀ y,shareP y=.agg [iP r.1.At,iP r.1.E]->Q (.ret y) [[iP q,iP q1],[oF r.2]]) :
 VC Tryz.prog 68 [tP src,.fn 69 [.ptr 1 0]] [[iP q,iP q1],[oF out]] Q:=by
 unfold Es at h
 refine VC.introD [4] ⟨[0,1,4,5,6,14,30],[]⟩ Tryz.func68 rfl follows rfl rfl (by kernel_rfl) ?_
 show WS _ _ _ (_::_) _ _
 repeat first|apply z1|apply z2|apply z3|apply z4
 refine wr [0,1,4] 3 (DP 1 []) ⟨[(0,tP src),(1,.fn 69 [.ptr 1 0]),(4,.ptr 2 0)],[[iP q,iP q1],[oF out],[iP 0,iP 0]]⟩ True.intro (by kernel_rfl) ?_
 repeat first|apply z1|apply z2|apply z3|apply z4
 obtain⟨t,j,h⟩:=Ac h
 refine wr [0,1,4,5] 3 (DP 1 (.call (.tup [hT t.1,.agg [iP t.2.At,iP t.2.E]])::(DP 5 []))) ⟨[(0,tP src),(1,.fn 69 [.ptr 1 0]),(4,.ptr 2 0),(5,hT t.1)],[[iP q,iP q1],[oF out],[iP t.2.At,iP t.2.E]]⟩ (And.intro (XT src t j) True.intro) (by kernel_rfl) ?_
 repeat first|apply z1|apply z2|apply z3|apply z4
 refine wr [0,1,4,5,14] 3 (DP 3 []) ⟨[(0,tP src),(1,.fn 69 [.ptr 1 0]),(4,.ptr 2 0),(5,hT t.1),(14,bP (t.2.E != 0))],[[iP q,iP q1],[oF out],[iP t.2.At,iP t.2.E]]⟩ True.intro (by kernel_rfl) ?_
 repeat first|apply z1|apply z2|apply z3|apply z4
 rcases Ao h with⟨b,h⟩|⟨b,h⟩
 . refine FE (test b) ?_
   repeat first|apply z1|apply z2|apply z3|apply z4
   refine wr [0,1,4,5,14] 3 (DP 2 []) ⟨[(0,tP src),(1,.fn 69 [.ptr 1 0]),(4,.ptr 2 0),(5,hT t.1),(14,bP (t.2.E != 0))],[[iP q,iP q1],[oF out],[iP t.2.At,iP t.2.E]]⟩ True.intro (by kernel_rfl) ?_
   repeat first|apply z1|apply z2|apply z3|apply z4
   obtain rfl:=Af h
   exact HS (GV hQ (by kernel_rfl)).1
 . refine Ew (test b) ?_
   repeat first|apply z3|apply z2|apply z1|apply z4
   refine Ad1 (Bx.mk ?_)
   show WS _ _ _ _ _ ⟨(16,.fn 113 [.ptr 2 0])::[(0,tP src),(1,.fn 69 [.ptr 1 0]),(4,.ptr 2 0),(5,hT t.1),(14,bP (t.2.E != 0))],[[iP q,iP q1],[oF out],[iP t.2.At,iP t.2.E]]⟩
   repeat first|apply z1|apply z2|apply z3|apply z4
   refine wr [1,4,6] 4 (DP 4 []) ⟨[(1,.fn 69 [.ptr 1 0]),(4,.ptr 2 0),(6,.ptr 3 0)],[[iP q,iP q1],[oF out],[iP t.2.At,iP t.2.E],[hT t.1,iP 0]]⟩ True.intro (by kernel_rfl) ?_
   repeat first|apply z1|apply z2|apply z3|apply z4
   obtain⟨y,i,h⟩:=Ac h
   rcases y with⟨f,c⟩|⟨e,c1⟩
   . refine wr [4,6] 4 (DP 2 (.site (.tup []) [[iP q,iP q1],[oF c.1],[iP t.2.At,iP t.2.E],[hT c.2.1,iP c.2.2]]::[])) ⟨[(4,.ptr 2 0),(6,.ptr 3 0)],[[iP q,iP q1],[oF c.1],[iP t.2.At,iP t.2.E],[hT c.2.1,iP c.2.2]]⟩ (And.intro (HW n q q1 out t.2.At t.2.E t.1 0 (.ok f c) i) True.intro) (by kernel_rfl) ?_
     repeat first|apply z1|apply z2|apply z3|apply z4
     obtain⟨x,a,h⟩:=Ac h
     refine wr [4,6,30] 4 (DP 4 (.val (.vptr (kT x) 0)::(DP 3 []))) ⟨[(4,.ptr 2 0),(6,.ptr 3 0),(30,bP (x.Kind != 5))],[[iP q,iP q1],[oF c.1],[iP t.2.At,iP t.2.E],[hT c.2.1,iP c.2.2]]⟩ (And.intro (oi a Ic (IA x)) True.intro) (by kernel_rfl) ?_
     repeat first|apply z1|apply z2|apply z3|apply z4
     rcases Ao h with⟨g,h⟩|⟨g,h⟩
     . refine FE (test g) ?_
       repeat first|apply z1|apply z2|apply z3|apply z4
       obtain⟨y1,d,h⟩:=Ac h
       rcases y1 with⟨f1,s⟩|⟨e1,s1⟩
       . refine wr [4] 4 (DP 1 (.meth (.tup []) [hT s.l,iP s.forms]::[])) ⟨[(4,.ptr 2 0)],[[iP q,iP q1],[oF c.1],[iP t.2.At,iP t.2.E],[hT s.l,iP s.forms]]⟩ (And.intro (Ax (Ab.mk c.2.1 c.2.2) 5 (.ok f1 s) d) True.intro) (by kernel_rfl) ?_
         repeat first|apply z1|apply z2|apply z3|apply z4
         refine wr [4] 4 (DP 2 []) ⟨[(4,.ptr 2 0)],[[iP q,iP q1],[oF c.1],[iP 0,iP 0],[hT s.l,iP s.forms]]⟩ True.intro (by kernel_rfl) ?_
         repeat first|apply z1|apply z2|apply z3|apply z4
         obtain rfl:=Af h
         exact HS (R6.mono (JE q q1 c.1 0 0 s.l s.forms) fun y u' σ' a=>⟨a.1,⟨_,a.2.1⟩,by rw [a.2.2];exact (GV hQ (by kernel_rfl)).1⟩)
       . repeat first|apply z1|apply z2|apply z3|apply z4
         obtain rfl:=Af h
         exact Ut [4] (DP 1 (.mpan [{ v:=.iface 188 (.agg #[(.int .i64 e1.At),(.int .i64 e1.E)]),recovered:=false }] [hT s1.l,iP s1.forms]::[])) ⟨[(4,.ptr 2 0)],[[iP q,iP q1],[oF c.1],[iP t.2.At,iP t.2.E],[hT s1.l,iP s1.forms]]⟩ (And.intro (Ax (Ab.mk c.2.1 c.2.2) 5 (.pan e1 s1) d) True.intro) (by kernel_rfl) rfl (R6.mono (JD q q1 c.1 t.2.At t.2.E s1.l s1.forms e1) fun y u' σ' a=>⟨a.1,⟨_,a.2.1⟩,by rw [a.2.2];exact (GV hQ (by kernel_rfl)).1⟩)
     . refine Ew (test g) ?_
       repeat first|apply z1|apply z2|apply z3|apply z4
       refine wr [4] 4 (DP 2 []) ⟨[(4,.ptr 2 0)],[[iP q,iP q1],[oF c.1],[iP 0,iP 0],[hT c.2.1,iP c.2.2]]⟩ True.intro (by kernel_rfl) ?_
       repeat first|apply z1|apply z2|apply z3|apply z4
       obtain rfl:=Af h
       exact HS (R6.mono (JE q q1 c.1 0 0 c.2.1 c.2.2) fun y u' σ' a=>⟨a.1,⟨_,a.2.1⟩,by rw [a.2.2];exact (GV hQ (by kernel_rfl)).1⟩)
   . repeat first|apply z1|apply z2|apply z3|apply z4
     obtain rfl:=Af h
     exact Ut [4] (DP 2 (.sitep [{ v:=.iface 188 (.agg #[(.int .i64 e.At),(.int .i64 e.E)]),recovered:=false }] [[iP q,iP q1],[oF c1.1],[iP t.2.At,iP t.2.E],[hT c1.2.1,iP c1.2.2]]::[])) ⟨[(4,.ptr 2 0)],[[iP q,iP q1],[oF c1.1],[iP t.2.At,iP t.2.E],[hT c1.2.1,iP c1.2.2]]⟩ (And.intro (HW n q q1 out t.2.At t.2.E t.1 0 (.pan e c1) i) True.intro) (by kernel_rfl) rfl (R6.mono (JD q q1 c1.1 t.2.At t.2.E c1.2.1 c1.2.2 e) fun y u' σ' a=>⟨a.1,⟨_,a.2.1⟩,by rw [a.2.2];exact (GV hQ (by kernel_rfl)).1⟩)
theorem Nf (n:Nat)(q:Int)(q1:Int)(out:(List Au))(src:Å)(r:(Ak×(List Au)))(h:Es n q q1 out src=some r):I2 Tryz.prog 68 [tP src,.fn 69 [.ptr 1 0]] [[iP q,iP q1],[oF out]] (.ret (.agg [iP r.1.At,iP r.1.E])) [[iP q,iP q1],[oF r.2]]:=I2.fin (fun Q hQ=>LF n q q1 out src _ h Q hQ)
theorem R9 (n:Nat)(src:Å)(r:((List Au)×Ak))(h:Ie n src=some r):Cz Tryz.prog 43 [tP src] (.tup [hF r.1,.agg [iP r.2.At,iP r.2.E]]):=by
 unfold Ie at h
 refine vP ⟨[0,2,3,4,5,11],[]⟩ Tryz.func43 follows fun Q b=>?_
 obtain⟨bad,a,h⟩:=Ac h
 refine cD 4 [(5,fs (Nf _ _ _ _ _ _ a))] h (fun c h=>?_) fun c h=>?_
 cases h
 exact rt 1 [] b
 cases h
 exact rt 1 [] b
end Go.Proofs.YtehfpameijkafaaGreatDoor
namespace Go.Proofs.YtehfpameijkafaaGreatDoor
open Go.RowKit Go.Q Go.Vl Go.Sp
set_option maxRecDepth 100000
set_option linter.unusedSimpArgs false
set_option maxHeartbeats 4000000
set_option linter.unusedVariables false
theorem OQ (r:(ByteArray×ByteArray×ByteArray×ByteArray))(h:It=some r):Cz Tryz.prog 71 [] (.agg [tP r.1,tP r.2.1,tP r.2.2.1,tP r.2.2.2]):=by
 unfold It at h
 refine vP ⟨[0],[]⟩ Tryz.func71 follows fun Q a=>?_
 cases h
 exact rt 2 [] a
theorem Nc (n:Nat)(s:(List Å))(v_:Å)(r:Int)(h:Hg n s v_=some r):Cz Tryz.prog 72 [hS s,tP v_] (iP r):=by
 unfold Hg at h
 refine vP ⟨[0,1,4,5,7,8,9,16],[]⟩ Tryz.func72 follows fun Q b=>?_
 refine mI 2 [(2,fl KU s)] h (fun _=>⟨[(4,iP 0)],[]⟩) ?_ fun y e h hJ=>?_
 rintro _ h
 cases h
 exact rt 1 [] b
 refine lF 1 [] (A:=Int) (fun n v8=>Em n s v_ v8) (fun v8=>⟨[(0,hS s),(1,tP v_),(4,iP 0),(7,iP (s.length:Int)),(8,iP v8)],[]⟩) 0 e (fun _=>rfl) ?_
 rintro n v8 e ih
 replace e:=(Em.eq_2 ..).symm.trans e
 refine cD 1 [] e (fun a e=>?_) fun a e=>?_
 obtain⟨x,c,e⟩:=Ac e
 refine cD 3 [(5,fi KU c)] e (fun d e=>?_) fun d e=>?_
 cases e
 cases h
 exact rt 1 [] b
 exact mJ 1 [] (ih _ e)
 exact mJ 1 [] (hJ _ (oj e))
theorem Oq (n:Nat)(f:Au)(r:(Int×Bool))(h:FX n f=some r):Cz Tryz.prog 44 [.agg (kF f)] (.tup [iP r.1,bP r.2]):=by
 unfold FX at h
 refine vP ⟨[0,1,2,3,4,5,6,7,8,17,48,50,51,52,53,67],[(2,[9999,0,0,1,2,3,4,5]),(11,[9999,0,0,1,2,3,4,5,6,7,8,9,10])]⟩ Tryz.func44 follows fun Q j=>?_
 obtain⟨l,v,h⟩:=Ac h
 refine xZ 2 [(3,fk (OQ _ v))] ?_
 obtain⟨i,w,h⟩:=Ac h
 obtain⟨l1,k,h⟩:=Ac h
 refine mE 3 [(3,fk (Nc _ _ _ _ w)),(2,fB A7 k)] h (fun want=>⟨[(1,.ptr 0 0),(2,iP 0),(3,bP false),(5,iP (À (i+1))),(6,oI want)],[kF f]⟩) ?_ fun y e hJ=>?_
 rintro want h
 refine mE 0 [] h (fun v48=>⟨[(1,.ptr 0 0),(2,iP 0),(3,bP false),(5,iP (À (i+1))),(6,oI want),(48,bP v48)],[kF f]⟩) ?_ fun y1 e1 b=>?_
 rintro v48 h
 refine cD 0 [] h (fun m h=>?_) fun m h=>?_
 cases h
 exact rt 1 [] j
 refine mI 1 [(2,fl Bj f.Args)] h (fun _=>⟨[(2,iP 0),(3,bP false),(5,iP (À (i+1)))],[kF f]⟩) ?_ fun y2 e2 h o=>?_
 rintro _ h
 cases h
 exact rt 1 [] j
 refine lF 1 [] (A:=Int) (fun n v52=>EN n f want v52) (fun v52=>⟨[(2,iP 0),(3,bP false),(5,iP (À (i+1))),(6,oI want),(50,hA f.Args),(51,iP (f.Args.length:Int)),(52,iP v52)],[kF f]⟩) 0 e2 (fun _=>rfl) ?_
 rintro n v52 e2 ih
 replace e2:=(EN.eq_2 ..).symm.trans e2
 refine cD 1 [] e2 (fun p e2=>?_) fun p e2=>?_
 obtain⟨x,z,e2⟩:=Ac e2
 obtain⟨x1,q,e2⟩:=Ac e2
 refine cD 3 [(1,fi Bj z),(9,fl A7 want),(2,fi A7 q)] e2 (fun B e2=>?_) fun B e2=>?_
 cases e2
 cases h
 exact rt 1 [] j
 exact mJ 1 [] (ih _ e2)
 exact mJ 1 [] (o _ (oj e2))
 rcases Ao e1 with⟨a,e1⟩|⟨a,e1⟩
 exact mJ 1 [(2,fo a)] (b _ (oj e1))
 rcases Ao e1 with⟨c,e1⟩|⟨c,e1⟩
 exact mJ 1 [(2,fo a),(2,fl Ec f.Body),(2,fo c)] (b _ (oj e1))
 rcases Ao e1 with⟨d,e1⟩|⟨d,e1⟩
 exact mJ 1 [(2,fo a),(2,fl Ec f.Body),(2,fo c),(2,fl Bj f.Args),(1,fl A7 want),(2,fo d)] (b _ (oj e1))
 rcases Ao e1 with⟨g,e1⟩|⟨g,e1⟩
 exact mJ 1 [(2,fo a),(2,fl Ec f.Body),(2,fo c),(2,fl Bj f.Args),(1,fl A7 want),(2,fo d),(2,fo g),(2,fl Bj f.Args),(1,fl A7 want)] (b _ (oj e1))
 exact mJ 1 [(2,fo a),(2,fl Ec f.Body),(2,fo c),(2,fl Bj f.Args),(1,fl A7 want),(2,fo d),(2,fo g)] (b _ (oj e1))
 refine cD 0 [] e (fun s e=>?_) fun s e=>?_
 obtain⟨l2,t,e⟩:=Ac e
 obtain⟨l3,u,e⟩:=Ac e
 exact mJ 1 [(1,fB A7 t),(0,fa A7 u)] (hJ _ (oj e))
 exact mJ 0 [] (hJ _ (oj e))
theorem Ji (q:Int)(q1:Int)(p:Int)(p1:Int)(f:Å)(f1:(List Bq))(f2:(List Au))(f3:Int)(c:Ad)(r:Bool)(h:EG q q1 p p1 f f1 f2 f3 c=some r):I2 Tryz.prog 45 [.agg (kC c),.ptr 3 0] [[iP q,iP q1],[iP p,iP p1],[Bh,CO],[tP f,hA f1,hF f2,iP f3]] (.ret (bP r)) [[iP q,iP q1],[iP p,iP p1],[Bh,CO],[tP f,hA f1,hF f2,iP f3]]:=by
 unfold EG at h
 refine vS ⟨[0,1,2,3],[(1,[9999,0,0,1,2,3,4,5,6,7,8])]⟩ Tryz.func45 follows fun Q a=>?_
 obtain⟨x,b,h⟩:=Ac h
 cases h
 exact rt 2 [(6,fi Bj b)] a
theorem Hr (n:Nat)(q:Int)(q1:Int)(p:Int)(p1:Int)(f:Å)(f1:(List Bq))(f2:(List Au))(f3:Int)(s:(List Ad))(r:Int)(h:Dh n q q1 p p1 f f1 f2 f3 s=some r):I2 Tryz.prog 64 [hC s,.fn 45 [.ptr 3 0]] [[iP q,iP q1],[iP p,iP p1],[Bh,CO],[tP f,hA f1,hF f2,iP f3]] (.ret (iP r)) [[iP q,iP q1],[iP p,iP p1],[Bh,CO],[tP f,hA f1,hF f2,iP f3]]:=by
 unfold Dh at h
 refine vS ⟨[0,1,4,5,7,8,9,16],[]⟩ Tryz.func64 follows fun Q d=>?_
 refine mI 2 [(2,fl AZ s)] h (fun _=>⟨[(4,iP 0)],[[iP q,iP q1],[iP p,iP p1],[Bh,CO],[tP f,hA f1,hF f2,iP f3]]⟩) ?_ fun y e h hJ=>?_
 rintro _ h
 cases h
 exact rt 1 [] d
 refine lF 1 [] (A:=Int) (fun n v8=>BX n s q q1 p p1 f f1 f2 f3 v8) (fun v8=>⟨[(0,hC s),(1,.fn 45 [.ptr 3 0]),(4,iP 0),(7,iP (s.length:Int)),(8,iP v8)],[[iP q,iP q1],[iP p,iP p1],[Bh,CO],[tP f,hA f1,hF f2,iP f3]]⟩) 0 e (fun _=>rfl) ?_
 rintro n v8 e ih
 replace e:=(BX.eq_2 ..).symm.trans e
 refine cD 1 [] e (fun a e=>?_) fun a e=>?_
 obtain⟨x,g,e⟩:=Ac e
 obtain⟨c,i,e⟩:=Ac e
 refine cD 3 [(5,fi AZ g),(1,fs (Ji _ _ _ _ _ _ _ _ _ _ i))] e (fun b e=>?_) fun b e=>?_
 cases e
 cases h
 exact rt 1 [] d
 exact mJ 1 [] (ih _ e)
 exact mJ 1 [] (hJ _ (oj e))
theorem Gv (n:Nat)(q:Int)(q1:Int)(p:Int)(p1:Int)(f:Å)(f1:(List Bq))(f2:(List Au))(f3:Int)(s:(List Ad))(r:Bool)(h:BY n q q1 p p1 f f1 f2 f3 s=some r):I2 Tryz.prog 37 [hC s,.fn 45 [.ptr 3 0]] [[iP q,iP q1],[iP p,iP p1],[Bh,CO],[tP f,hA f1,hF f2,iP f3]] (.ret (bP r)) [[iP q,iP q1],[iP p,iP p1],[Bh,CO],[tP f,hA f1,hF f2,iP f3]]:=by
 unfold BY at h
 refine vS ⟨[0,1,4],[]⟩ Tryz.func37 follows fun Q a=>?_
 obtain⟨c,b,h⟩:=Ac h
 cases h
 exact rt 2 [(3,fs (Hr _ _ _ _ _ _ _ _ _ _ _ b))] a
theorem LC (q:Int)(q1:Int)(p:Int)(p1:Int)(f:Å)(f1:(List Bq))(f2:(List Au))(f3:Int)(c:Å)(c1:Int)(c2:Int)(c3:Int)(c4:Int)(c5:Int)(c6:Å)(c7:(List Ah))(c8:Int)(c9:Int)(c10:Int)(c11:Å)(c12:(List Ah))(c13:Int)(c14:Int)(c15:Int)(c16:Å)(c17:(List Ah))(c18:Int)(c19:Int)(r:Unit)(h:EM q q1 p p1 f f1 f2 f3 c c1 c2 c3 c4 c5 c6 c7 c8 c9 c10 c11 c12 c13 c14 c15 c16 c17 c18 c19=some r):I2 Tryz.prog 39 [.ptr 4 0] [[iP q,iP q1],[iP p,iP p1],[Bh,CO],[tP f,hA f1,hF f2,iP f3],[tP c,iP c1,iP c2,iP c3,iP c4,iP c5,tP c6,hX c7,iP c8,iP c9,iP c10,tP c11,hX c12,iP c13,iP c14,iP c15,tP c16,hX c17,iP c18,iP c19]] (.ret (.tup [.agg [.ptr 4 4,.ptr 4 9,.ptr 4 14],.agg [iP 2,iP 2,iP 3]])) [[iP q,iP q1],[iP p,iP p1],[Bh,CO],[tP f,hA f1,hF f2,iP f3],[tP c,iP c1,iP c2,iP c3,iP c4,iP c5,tP c6,hX c7,iP c8,iP c9,iP c10,tP c11,hX c12,iP c13,iP c14,iP c15,tP c16,hX c17,iP c18,iP c19]]:=by
 unfold EM at h
 refine vS ⟨[0,2,3],[(1,[9999,0,0,1,2,3,4,5,6,7,8,9,10,11,12])]⟩ Tryz.func39 follows fun Q a=>?_
 cases h
 exact rt 2 [] a
theorem I5 (n:Nat)(src:Å)(r:((List Ad)×Ak))(h:Cv n src=some r):Cz Tryz.prog 22 [tP src] (.tup [hC r.1,.agg [iP r.2.At,iP r.2.E]]):=by
 unfold Cv at h
 refine vP ⟨[0,2,3,4,5,6,7,9,10,11,12,13,14,15,16,17,18,19,20,21,23,31,34,35,36,37,45,51,58,101,102,103,104,149,154,169,170,171,185,191],[(3,[9999,0,0,1,2]),(11,[9999,0,0,1,2,3,4]),(13,[9999,0,0,1,2,3,4]),(15,[9999,0,0,1,2,3,4,5,6,7]),(16,[9999,0,0,1,2,3,4,5,6,7,8,9,10,11,12,13,14,15,16,17,18,19,20,21,22,23,24,25,26,27,28,29,30,31,32,33]),(23,[9999,0,0,1,2,3,4]),(25,[9999,1,4,0,1,2,3,4,5,6,7,8,9,10]),(31,[9995]),(33,[9999,0,0,1,2]),(35,[9999,0,0,1,2,3,4,5,6,7,8,9])]⟩ Tryz.func22 follows fun Q C=>?_
 obtain⟨f,hf,h⟩:=Ac h
 refine cD 3 [(3,fk (R9 _ _ _ hf))] h (fun M h=>?_) fun M h=>?_
 cases h
 exact rt 1 [] C
 obtain⟨u,hu,h⟩:=Ac h
 refine mI 3 [(0,fk OS),(4,fl Ec f.1)] h (fun out=>⟨[(2,.sl [] .own),(3,.ptr 0 0),(7,oC out)],[[iP 0,iP 0],[iP f.2.At,iP f.2.E],[Bh,CO]]⟩) ?_ fun y e h hJ=>?_
 rintro out h
 cases h
 exact rt 1 [] C
 refine lF 1 [] (A:=((List Ad)×Int)) (fun n (out1,v36)=>AF n f out1 v36) (fun (out1,v36)=>⟨[(2,.sl [] .own),(3,.ptr 0 0),(6,.ptr 2 0),(7,oC out1),(34,hF f.1),(35,iP (f.1.length:Int)),(36,iP v36)],[[iP 0,iP 0],[iP f.2.At,iP f.2.E],[Bh,CO]]⟩) ([],0) e (fun _=>rfl) ?_
 rintro n ⟨out1,v36⟩ e ih
 replace e:=(AF.eq_2 ..).symm.trans e
 refine cD 1 [] e (fun O e=>?_) fun O e=>?_
 obtain⟨x,hx,e⟩:=Ac e
 obtain⟨s,hs,e⟩:=Ac e
 refine cD 5 [(0,fi Ec hx),(4,fk (Oq _ _ _ hs))] e (fun P e=>?_) fun P e=>?_
 cases e
 cases h
 exact rt 1 [] C
 refine cD 1 [(1,fl AZ out1)] e (fun R e=>?_) fun R e=>?_
 cases e
 cases h
 exact rt 1 [] C
 obtain⟨c,hc,e⟩:=Ac e
 refine cD 1 [(2,fs (Gv _ _ _ _ _ _ _ _ _ _ _ hc))] e (fun T e=>?_) fun T e=>?_
 obtain⟨x1,hx1,e⟩:=Ac e
 cases e
 cases h
 exact rt 1 [(2,fi Bj hx1)] C
 obtain⟨x2,hx2,e⟩:=Ac e
 obtain⟨x3,hx3,e⟩:=Ac e
 obtain⟨x4,hx4,e⟩:=Ac e
 obtain⟨x5,U,e⟩:=Ac e
 obtain⟨x6,V,e⟩:=Ac e
 obtain⟨x7,W,e⟩:=Ac e
 refine mI 3 [(2,fi Bj hx2),(5,fi Bj hx3),(4,fi Bj hx4),(4,fi Bj U),(4,fi Bj V),(4,fi Bj W),(8,fl Bj x.Args)] e (fun c1=>⟨[(2,.sl [] .own),(3,.ptr 0 0),(6,.ptr 2 0),(7,oC out1),(9,.ptr 3 0),(12,.ptr 4 0),(34,hF f.1),(35,iP (f.1.length:Int)),(36,iP v36)],[[iP 0,iP 0],[iP f.2.At,iP f.2.E],[Bh,CO],kF x,[tP x2.S,iP s.1,iP x3.N,iP x4.N,iP x5.E.Op,iP x5.E.N,tP x5.E.S,hX x5.E.Kids,iP x5.E.At,iP x6.E.Op,iP x6.E.N,tP x6.E.S,hX x6.E.Kids,iP x6.E.At,iP x7.E.Op,iP x7.E.N,tP x7.E.S,hX x7.E.Kids,iP x7.E.At,iP c1]]⟩) ?_ fun y1 e1 e hJ1=>?_
 rintro c1 e
 obtain⟨w,hw,e⟩:=Ac e
 refine mI 2 [(0,fs (LC _ _ _ _ _ _ _ _ _ _ _ _ _ _ _ _ _ _ _ _ _ _ _ _ _ _ _ _ _ hw))] e (fun _=>⟨[(2,.sl [] .own),(3,.ptr 0 0),(6,.ptr 2 0),(7,oC out1),(12,.ptr 4 0),(34,hF f.1),(35,iP (f.1.length:Int)),(36,iP v36)],[[iP 0,iP 0],[iP f.2.At,iP f.2.E],[Bh,CO],kF x,[tP x2.S,iP s.1,iP x3.N,iP x4.N,iP x5.E.Op,iP x5.E.N,tP x5.E.S,hX x5.E.Kids,iP x5.E.At,iP x6.E.Op,iP x6.E.N,tP x6.E.S,hX x6.E.Kids,iP x6.E.At,iP x7.E.Op,iP x7.E.N,tP x7.E.S,hX x7.E.Kids,iP x7.E.At,iP c1],[.ptr 4 4,.ptr 4 9,.ptr 4 14],[iP 2,iP 2,iP 3]]⟩) ?_ fun y2 e2 e hJ2=>?_
 rintro _ e
 obtain⟨l,hl,e⟩:=Ac e
 obtain⟨l1,hl1,e⟩:=Ac e
 exact mJ 2 [(2,fB AZ hl),(0,fa AZ hl1)] (ih (_,_) e)
 refine lF 1 [] (A:=Int) (fun n v170=>AK n x5 x6 x7 v170) (fun v170=>⟨[(2,.sl [] .own),(3,.ptr 0 0),(6,.ptr 2 0),(7,oC out1),(9,.ptr 3 0),(12,.ptr 4 0),(18,.ptr 6 0),(34,hF f.1),(35,iP (f.1.length:Int)),(36,iP v36),(169,.agg [.ptr 4 4,.ptr 4 9,.ptr 4 14]),(170,iP v170)],[[iP 0,iP 0],[iP f.2.At,iP f.2.E],[Bh,CO],kF x,[tP x2.S,iP s.1,iP x3.N,iP x4.N,iP x5.E.Op,iP x5.E.N,tP x5.E.S,hX x5.E.Kids,iP x5.E.At,iP x6.E.Op,iP x6.E.N,tP x6.E.S,hX x6.E.Kids,iP x6.E.At,iP x7.E.Op,iP x7.E.N,tP x7.E.S,hX x7.E.Kids,iP x7.E.At,iP c1],[.ptr 4 4,.ptr 4 9,.ptr 4 14],[iP 2,iP 2,iP 3]]⟩) 0 e2 (fun _=>rfl) ?_
 rintro n v170 e2 L
 replace e2:=(AK.eq_2 ..).symm.trans e2
 replace e2:=Ao e2
 rcases e2 with⟨X,e2⟩|⟨X,e2⟩
 obtain rfl:=NJ X
 obtain⟨f3,D,e2⟩:=Ac e2
 refine wl 4 [] ?_
 refine xE 6 [.no,.no,.no,.no,.call (.tup [iP f3.1,.agg [iP f3.2.1.op,tP f3.2.1.name,hI f3.2.1.args,iP f3.2.1.kind,.fno (Le f3.2.1.do_) (JH f3.2.1.do_) (JX f3.2.1.do_)],.agg [iP f3.2.2.At,iP f3.2.2.E]]),.no,.no,.no,.no,.no,.no,.no,.no,.no] ⟨[(2,.sl [] .own),(3,.ptr 0 0),(6,.ptr 2 0),(7,oC out1),(9,.ptr 3 0),(12,.ptr 4 0),(18,.ptr 6 0),(19,iP 0),(21,iP f3.1),(23,.ptr 8 0),(34,hF f.1),(35,iP (f.1.length:Int)),(36,iP v36),(169,.agg [.ptr 4 4,.ptr 4 9,.ptr 4 14]),(170,iP 0)],[[iP 0,iP 0],[iP f.2.At,iP f.2.E],[Bh,CO],kF x,[tP x2.S,iP s.1,iP x3.N,iP x4.N,iP x5.E.Op,iP x5.E.N,tP x5.E.S,hX x5.E.Kids,iP x5.E.At,iP x6.E.Op,iP x6.E.N,tP x6.E.S,hX x6.E.Kids,iP x6.E.At,iP x7.E.Op,iP x7.E.N,tP x7.E.S,hX x7.E.Kids,iP x7.E.At,iP c1],[.ptr 4 4,.ptr 4 9,.ptr 4 14],[iP 2,iP 2,iP 3],[iP f3.2.1.op,tP f3.2.1.name,hI f3.2.1.args,iP f3.2.1.kind,.fno (Le f3.2.1.do_) (JH f3.2.1.do_) (JX f3.2.1.do_)],[iP f3.2.2.At,iP f3.2.2.E]]⟩ (And.intro (And.intro (Cq x5.E f3 D) (And.intro True.intro (And.intro (And.intro True.intro True.intro) True.intro))) (And.intro (And.intro (And.intro (Cq x5.E f3 D) True.intro) (And.intro (And.intro (Cq x5.E f3 D) True.intro) True.intro)) (And.intro (And.intro (And.intro (Cq x5.E f3 D) (And.intro True.intro True.intro)) (And.intro (And.intro (Cq x5.E f3 D) True.intro) True.intro)) True.intro))) ?_
 refine cD 1 [] e2 (fun Y e2=>?_) fun Y e2=>?_
 cases e2
 cases e
 cases h
 exact rt 1 [] C
 refine cD 1 [] e2 (fun hc9 e2=>?_) fun hc9 e2=>?_
 cases e2
 cases e
 cases h
 exact rt 1 [(4,fi Bj U)] C
 exact mJ 1 [] (L _ e2)
 replace e2:=Ao e2
 rcases e2 with⟨Z,e2⟩|⟨Z,e2⟩
 obtain rfl:=NJ Z
 obtain⟨f2,F,e2⟩:=Ac e2
 refine wl 4 [] ?_
 refine xE 6 [.no,.no,.no,.no,.call (.tup [iP f2.1,.agg [iP f2.2.1.op,tP f2.2.1.name,hI f2.2.1.args,iP f2.2.1.kind,.fno (Le f2.2.1.do_) (JH f2.2.1.do_) (JX f2.2.1.do_)],.agg [iP f2.2.2.At,iP f2.2.2.E]]),.no,.no,.no,.no,.no,.no,.no,.no,.no] ⟨[(2,.sl [] .own),(3,.ptr 0 0),(6,.ptr 2 0),(7,oC out1),(9,.ptr 3 0),(12,.ptr 4 0),(18,.ptr 6 0),(19,iP 1),(21,iP f2.1),(23,.ptr 8 0),(34,hF f.1),(35,iP (f.1.length:Int)),(36,iP v36),(169,.agg [.ptr 4 4,.ptr 4 9,.ptr 4 14]),(170,iP 1)],[[iP 0,iP 0],[iP f.2.At,iP f.2.E],[Bh,CO],kF x,[tP x2.S,iP s.1,iP x3.N,iP x4.N,iP x5.E.Op,iP x5.E.N,tP x5.E.S,hX x5.E.Kids,iP x5.E.At,iP x6.E.Op,iP x6.E.N,tP x6.E.S,hX x6.E.Kids,iP x6.E.At,iP x7.E.Op,iP x7.E.N,tP x7.E.S,hX x7.E.Kids,iP x7.E.At,iP c1],[.ptr 4 4,.ptr 4 9,.ptr 4 14],[iP 2,iP 2,iP 3],[iP f2.2.1.op,tP f2.2.1.name,hI f2.2.1.args,iP f2.2.1.kind,.fno (Le f2.2.1.do_) (JH f2.2.1.do_) (JX f2.2.1.do_)],[iP f2.2.2.At,iP f2.2.2.E]]⟩ (And.intro (And.intro (Cq x6.E f2 F) (And.intro True.intro (And.intro (And.intro True.intro True.intro) True.intro))) (And.intro (And.intro (And.intro (Cq x6.E f2 F) True.intro) (And.intro (And.intro (Cq x6.E f2 F) True.intro) True.intro)) (And.intro (And.intro (And.intro (Cq x6.E f2 F) (And.intro True.intro True.intro)) (And.intro (And.intro (Cq x6.E f2 F) True.intro) True.intro)) True.intro))) ?_
 refine cD 1 [] e2 (fun hc7 e2=>?_) fun hc7 e2=>?_
 cases e2
 cases e
 cases h
 exact rt 1 [] C
 refine cD 1 [] e2 (fun hc6 e2=>?_) fun hc6 e2=>?_
 cases e2
 cases e
 cases h
 exact rt 1 [(4,fi Bj V)] C
 exact mJ 1 [] (L _ e2)
 replace e2:=Ao e2
 rcases e2 with⟨hc2,e2⟩|⟨hc2,e2⟩
 obtain rfl:=NJ hc2
 obtain⟨f1,G,e2⟩:=Ac e2
 refine wl 4 [] ?_
 refine xE 6 [.no,.no,.no,.no,.call (.tup [iP f1.1,.agg [iP f1.2.1.op,tP f1.2.1.name,hI f1.2.1.args,iP f1.2.1.kind,.fno (Le f1.2.1.do_) (JH f1.2.1.do_) (JX f1.2.1.do_)],.agg [iP f1.2.2.At,iP f1.2.2.E]]),.no,.no,.no,.no,.no,.no,.no,.no,.no] ⟨[(2,.sl [] .own),(3,.ptr 0 0),(6,.ptr 2 0),(7,oC out1),(9,.ptr 3 0),(12,.ptr 4 0),(18,.ptr 6 0),(19,iP 2),(21,iP f1.1),(23,.ptr 8 0),(34,hF f.1),(35,iP (f.1.length:Int)),(36,iP v36),(169,.agg [.ptr 4 4,.ptr 4 9,.ptr 4 14]),(170,iP 2)],[[iP 0,iP 0],[iP f.2.At,iP f.2.E],[Bh,CO],kF x,[tP x2.S,iP s.1,iP x3.N,iP x4.N,iP x5.E.Op,iP x5.E.N,tP x5.E.S,hX x5.E.Kids,iP x5.E.At,iP x6.E.Op,iP x6.E.N,tP x6.E.S,hX x6.E.Kids,iP x6.E.At,iP x7.E.Op,iP x7.E.N,tP x7.E.S,hX x7.E.Kids,iP x7.E.At,iP c1],[.ptr 4 4,.ptr 4 9,.ptr 4 14],[iP 2,iP 2,iP 3],[iP f1.2.1.op,tP f1.2.1.name,hI f1.2.1.args,iP f1.2.1.kind,.fno (Le f1.2.1.do_) (JH f1.2.1.do_) (JX f1.2.1.do_)],[iP f1.2.2.At,iP f1.2.2.E]]⟩ (And.intro (And.intro (Cq x7.E f1 G) (And.intro True.intro (And.intro (And.intro True.intro True.intro) True.intro))) (And.intro (And.intro (And.intro (Cq x7.E f1 G) True.intro) (And.intro (And.intro (Cq x7.E f1 G) True.intro) True.intro)) (And.intro (And.intro (And.intro (Cq x7.E f1 G) (And.intro True.intro True.intro)) (And.intro (And.intro (Cq x7.E f1 G) True.intro) True.intro)) True.intro))) ?_
 refine cD 1 [] e2 (fun hc4 e2=>?_) fun hc4 e2=>?_
 cases e2
 cases e
 cases h
 exact rt 1 [] C
 refine cD 1 [] e2 (fun hc3 e2=>?_) fun hc3 e2=>?_
 cases e2
 cases e
 cases h
 exact rt 1 [(4,fi Bj W)] C
 exact mJ 1 [] (L _ e2)
 replace e2:=Ao e2
 rcases e2 with⟨hc1,e2⟩|⟨hc1,e2⟩
 obtain rfl:=NJ hc1
 exact mJ 3 [] (hJ2 _ (oj e2))
 cases e2
 refine lF 1 [] (A:=(Int×Int×Int)) (fun n (v103,last,c2)=>C4 n x v103 last c2) (fun (v103,last,c2)=>⟨[(2,.sl [] .own),(3,.ptr 0 0),(6,.ptr 2 0),(7,oC out1),(9,.ptr 3 0),(12,.ptr 4 0),(13,iP last),(34,hF f.1),(35,iP (f.1.length:Int)),(36,iP v36),(101,hA x.Args),(102,iP (x.Args.length:Int)),(103,iP v103)],[[iP 0,iP 0],[iP f.2.At,iP f.2.E],[Bh,CO],kF x,[tP x2.S,iP s.1,iP x3.N,iP x4.N,iP x5.E.Op,iP x5.E.N,tP x5.E.S,hX x5.E.Kids,iP x5.E.At,iP x6.E.Op,iP x6.E.N,tP x6.E.S,hX x6.E.Kids,iP x6.E.At,iP x7.E.Op,iP x7.E.N,tP x7.E.S,hX x7.E.Kids,iP x7.E.At,iP c2]]⟩) (0,-1,0) e1 (fun _=>rfl) ?_
 rintro n ⟨v103,last,c2⟩ e1 ih2
 replace e1:=(C4.eq_2 ..).symm.trans e1
 refine cD 1 [] e1 (fun hc30 e1=>?_) fun hc30 e1=>?_
 obtain⟨x8,hx8,e1⟩:=Ac e1
 refine mE 2 [(1,fi Bj hx8)] e1 (fun odd=>⟨[(2,.sl [] .own),(3,.ptr 0 0),(6,.ptr 2 0),(7,oC out1),(9,.ptr 3 0),(12,.ptr 4 0),(13,iP last),(14,iP v103),(15,.ptr 5 0),(16,bP odd),(34,hF f.1),(35,iP (f.1.length:Int)),(36,iP v36),(101,hA x.Args),(102,iP (x.Args.length:Int)),(103,iP v103)],[[iP 0,iP 0],[iP f.2.At,iP f.2.E],[Bh,CO],kF x,[tP x2.S,iP s.1,iP x3.N,iP x4.N,iP x5.E.Op,iP x5.E.N,tP x5.E.S,hX x5.E.Kids,iP x5.E.At,iP x6.E.Op,iP x6.E.N,tP x6.E.S,hX x6.E.Kids,iP x6.E.At,iP x7.E.Op,iP x7.E.N,tP x7.E.S,hX x7.E.Kids,iP x7.E.At,iP c2],kA x8]⟩) ?_ fun y3 e3 b=>?_
 rintro odd e1
 refine cD 1 [] e1 (fun hc12 e1=>?_) fun hc12 e1=>?_
 cases e1
 cases e
 cases h
 exact rt 1 [] C
 refine cD 1 [] e1 (fun hc11 e1=>?_) fun hc11 e1=>?_
 obtain⟨q,hq,e1⟩:=Ac e1
 exact mJ 2 [(4,fN .i64 hq)] (ih2 (_,_,_) e1)
 exact mJ 1 [] (ih2 (_,_,_) e1)
 rcases Ao e3 with⟨a,e3⟩|⟨a,e3⟩
 rcases Ao e3 with⟨d,e3⟩|⟨d,e3⟩
 exact mJ 1 [(2,fo a),(3,fo d)] (b _ (oj e3))
 rcases Ao e3 with⟨g,e3⟩|⟨g,e3⟩
 exact mJ 1 [(2,fo a),(3,fo d),(5,fo g)] (b _ (oj e3))
 rcases Ao e3 with⟨i,e3⟩|⟨i,e3⟩
 rcases Ao e3 with⟨k,e3⟩|⟨k,e3⟩
 exact mJ 1 [(2,fo a),(3,fo d),(5,fo g),(2,fo i),(3,fo k)] (b _ (oj e3))
 rcases Ao e3 with⟨o,e3⟩|⟨o,e3⟩
 exact mJ 1 [(2,fo a),(3,fo d),(5,fo g),(2,fo i),(3,fo k),(6,fo o)] (b _ (oj e3))
 rcases Ao e3 with⟨t,e3⟩|⟨t,e3⟩
 rcases Ao e3 with⟨H,e3⟩|⟨H,e3⟩
 exact mJ 1 [(2,fo a),(3,fo d),(5,fo g),(2,fo i),(3,fo k),(6,fo o),(2,fo t),(4,fo H)] (b _ (oj e3))
 exact mJ 1 [(2,fo a),(3,fo d),(5,fo g),(2,fo i),(3,fo k),(6,fo o),(2,fo t),(4,fo H)] (b _ (oj e3))
 exact mJ 1 [(2,fo a),(3,fo d),(5,fo g),(2,fo i),(3,fo k),(6,fo o),(2,fo t)] (b _ (oj e3))
 rcases Ao e3 with⟨v,e3⟩|⟨v,e3⟩
 rcases Ao e3 with⟨I,e3⟩|⟨I,e3⟩
 exact mJ 1 [(2,fo a),(3,fo d),(5,fo g),(2,fo i),(13,fo v),(4,fo I)] (b _ (oj e3))
 exact mJ 1 [(2,fo a),(3,fo d),(5,fo g),(2,fo i),(13,fo v),(4,fo I)] (b _ (oj e3))
 exact mJ 1 [(2,fo a),(3,fo d),(5,fo g),(2,fo i),(13,fo v)] (b _ (oj e3))
 rcases Ao e3 with⟨j,e3⟩|⟨j,e3⟩
 rcases Ao e3 with⟨m,e3⟩|⟨m,e3⟩
 exact mJ 1 [(2,fo a),(12,fo j),(3,fo m)] (b _ (oj e3))
 rcases Ao e3 with⟨p,e3⟩|⟨p,e3⟩
 exact mJ 1 [(2,fo a),(12,fo j),(3,fo m),(6,fo p)] (b _ (oj e3))
 rcases Ao e3 with⟨z,e3⟩|⟨z,e3⟩
 rcases Ao e3 with⟨J,e3⟩|⟨J,e3⟩
 exact mJ 1 [(2,fo a),(12,fo j),(3,fo m),(6,fo p),(2,fo z),(4,fo J)] (b _ (oj e3))
 exact mJ 1 [(2,fo a),(12,fo j),(3,fo m),(6,fo p),(2,fo z),(4,fo J)] (b _ (oj e3))
 exact mJ 1 [(2,fo a),(12,fo j),(3,fo m),(6,fo p),(2,fo z)] (b _ (oj e3))
 rcases Ao e3 with⟨B,e3⟩|⟨B,e3⟩
 rcases Ao e3 with⟨K,e3⟩|⟨K,e3⟩
 exact mJ 1 [(2,fo a),(12,fo j),(13,fo B),(4,fo K)] (b _ (oj e3))
 exact mJ 1 [(2,fo a),(12,fo j),(13,fo B),(4,fo K)] (b _ (oj e3))
 exact mJ 1 [(2,fo a),(12,fo j),(13,fo B)] (b _ (oj e3))
 exact mJ 1 [] (hJ1 _ (oj e1))
 exact mJ 1 [] (hJ _ (oj e))
end Go.Proofs.YtehfpameijkafaaGreatDoor

namespace Go.Proofs.YtehfpameijkafaaGreatDoor
open Go.RowKit Go.Q Go.Vl Go.Sp
set_option maxRecDepth 100000
set_option linter.unusedSimpArgs false
set_option maxHeartbeats 4000000
set_option linter.unusedVariables false
theorem SX (n:Nat)(a_:B0)(b:B0)(r:Bool)(h:LQ n a_ b=some r):Cz Tryz.prog 18 [.agg (Sl a_),.agg (Sl b)] (bP r):=by
 unfold LQ at h
 refine vP ⟨[0,1,2,3,4,5,26,31,44],[(6,[9999,0,0,1,2,3,4,5,6,7,8,9,10])]⟩ Tryz.func18 follows fun Q d=>?_
 refine mE 1 [] h (fun v26=>⟨[(2,.ptr 0 0),(3,.ptr 1 0),(4,bP false),(26,bP v26)],[Sl a_,Sl b]⟩) ?_ fun y e hJ=>?_
 rintro v26 h
 refine cD 0 [] h (fun f h=>?_) fun f h=>?_
 cases h
 exact rt 1 [] d
 refine mI 1 [] h (fun _=>⟨[(4,bP false)],[Sl a_,Sl b]⟩) ?_ fun y1 e1 h g=>?_
 rintro _ h
 cases h
 exact rt 1 [] d
 refine lF 1 [] (A:=Int) (fun n k=>GG n a_ b k) (fun k=>⟨[(2,.ptr 0 0),(3,.ptr 1 0),(4,bP false),(5,iP k)],[Sl a_,Sl b]⟩) 0 e1 (fun _=>rfl) ?_
 rintro n k e1 ih
 replace e1:=(GG.eq_2 ..).symm.trans e1
 refine cD 1 [(3,fl A7 a_.By)] e1 (fun i e1=>?_) fun i e1=>?_
 obtain⟨x,l,e1⟩:=Ac e1
 obtain⟨x1,j,e1⟩:=Ac e1
 refine cD 2 [(3,fi A7 l),(4,fi A7 j)] e1 (fun m e1=>?_) fun m e1=>?_
 cases e1
 cases h
 exact rt 1 [] d
 exact mJ 1 [] (ih _ e1)
 exact mJ 1 [] (g _ (oj e1))
 rcases Ao e with⟨a,e⟩|⟨a,e⟩
 exact mJ 1 [(5,fo a)] (hJ _ (oj e))
 rcases Ao e with⟨c,e⟩|⟨c,e⟩
 exact mJ 1 [(5,fo a),(6,fo c)] (hJ _ (oj e))
 exact mJ 1 [(5,fo a),(6,fo c),(2,fl A7 a_.By),(2,fl A7 b.By)] (hJ _ (oj e))
theorem BB (n:Nat)(a_:(List AQ))(b:(List AQ))(r:Bool)(h:F2 n a_ b=some r):Cz Tryz.prog 19 [hX8 a_,hX8 b] (bP r):=by
 unfold F2 at h
 refine vP ⟨[0,1,4,5,10,14,25],[(6,[9999,0,0,1,2,3,4,5,6,7,8])]⟩ Tryz.func19 follows fun Q a=>?_
 refine cD 2 [(2,fl CD a_),(1,fl CD b)] h (fun c h=>?_) fun c h=>?_
 cases h
 exact rt 1 [] a
 refine mI 1 [] h (fun _=>⟨[(4,bP false)],[]⟩) ?_ fun y e h hJ=>?_
 rintro _ h
 cases h
 exact rt 1 [] a
 refine lF 1 [] (A:=Int) (fun n k=>CW n a_ b k) (fun k=>⟨[(0,hX8 a_),(1,hX8 b),(4,bP false),(5,iP k)],[]⟩) 0 e (fun _=>rfl) ?_
 rintro n k e ih
 replace e:=(CW.eq_2 ..).symm.trans e
 refine cD 1 [(2,fl CD a_)] e (fun d e=>?_) fun d e=>?_
 obtain⟨x,g,e⟩:=Ac e
 obtain⟨x1,f,e⟩:=Ac e
 refine cD 2 [(2,fi CD g),(3,fi CD f)] e (fun i e=>?_) fun i e=>?_
 cases e
 cases h
 exact rt 1 [] a
 exact mJ 1 [] (ih _ e)
 exact mJ 1 [] (hJ _ (oj e))
theorem DS (n:Nat)(l:(List Ad))(d:Ap)(day:Int)(known:Int)(want:B0)(r:Bool)(h:Gc n l d day known want=some r):Cz Tryz.prog 26 [hC l,.agg (kD d),iP day,iP known,.agg (Sl want)] (bP r):=by
 unfold Gc at h
 refine vP ⟨[0,1,2,3,4,6,9,10,11,12],[]⟩ Tryz.func26 follows fun Q c=>?_
 obtain⟨a_,a,h⟩:=Ac h
 refine mE 2 [(7,fk (OU _ _ _ _ _ _ a))] h (fun v10=>⟨[(10,bP v10)],[kD d,Sl want,[iP a_.1.State,iP a_.1.Houses,hI a_.1.By]]⟩) ?_ fun y e hJ=>?_
 rintro v10 h
 cases h
 exact rt 0 [] c
 rcases Ao e with⟨b,e⟩|⟨b,e⟩
 obtain⟨s,hs,e⟩:=Ac e
 exact mJ 1 [(2,fo b),(2,fk (SX _ _ _ _ hs))] (hJ _ (oj e))
 exact mJ 1 [(2,fo b)] (hJ _ (oj e))
theorem Ls (n:Nat)(l:(List Ad))(d:Ap)(day:Int)(known:Int)(want:B0)(r:Bool)(h:Gc n l d day known want=some r)(hw:want.By=[]):Cz Tryz.prog 26 [hC l,.agg (kD d),iP day,iP known,.agg [iP want.State,iP want.Houses,.sl [] .nil]] (bP r):=by
 have c:=DS n l d day known want r h
 rw [show Sl want=[iP want.State,iP want.Houses,hI want.By] from rfl,hw] at c
 intro σ w G vs b g m o q
 refine c σ w G vs b g (fun i e=>?_) o q
 have a:=m i e
 match i,e,a with
 |0,_,a=>exact a
 |1,_,a=>exact a
 |2,_,a=>exact a
 |3,_,a=>exact a
 |4,_,a =>
  revert a
  show V w G.U G.φ (.agg [iP want.State,iP want.Houses,.sl [] .nil]) _->V w G.U G.φ (.agg [iP want.State,iP want.Houses,.sl [] .shared]) _
  generalize vs.getD 4 Go.undef=z
  intro a
  cases a with
  |agg _ _ arr s t b =>
   refine .agg _ _ arr s (fun j f=>?_) b
   have:=t j f
   match j,f,this with
   |0,_,k=>exact k
   |1,_,k=>exact k
   |2,_,k=>exact Cp (p:=.sl [] .nil) k
theorem Q2 (n:Nat)(r:Bool)(h:Jt n=some r):Cz Tryz.prog 9 [] (bP r):=by
 unfold Jt at h
 refine vP ⟨[0,1,2,3,4,5,6,7,8,9,10,11,12,13,14,15],[]⟩ Tryz.func9 follows fun Q S=>?_
 obtain⟨c,T,h⟩:=Ac h
 obtain⟨l,U,h⟩:=Ac h
 refine mE 3 [(1,fk (I5 _ _ _ T)),(7,fB BC U)] h (fun one=>⟨[(0,bP false),(1,hC c.1),(3,.ptr 1 0),(4,bP one)],[[iP c.2.At,iP c.2.E],[hZ l,iP 10,iP 4]]⟩) ?_ fun y e hJ=>?_
 rintro one h
 refine mE 0 [] h (fun two=>⟨[(0,bP false),(1,hC c.1),(3,.ptr 1 0),(4,bP one),(5,bP two)],[[iP c.2.At,iP c.2.E],[hZ l,iP 10,iP 4]]⟩) ?_ fun y1 e1 B=>?_
 rintro two h
 obtain⟨s,hs,h⟩:=Ac h
 obtain⟨b,hb,h⟩:=Ac h
 obtain⟨l1,J,h⟩:=Ac h
 obtain⟨l2,K,h⟩:=Ac h
 obtain⟨l3,L,h⟩:=Ac h
 refine mE 5 [(2,fk (JC _ _ _ _ _ hs)),(7,fk (RB _ _ _ _ _ hb)),(9,fk (Lt _ _ _ _ _ _ J)),(7,fk (Lt _ _ _ _ _ _ K)),(10,fB CD L)] h (fun v0_=>⟨[(0,bP v0_)],[[iP c.2.At,iP c.2.E],[hZ l,iP 10,iP 4]]⟩) ?_ fun y2 e2 d=>?_
 rintro v0_ h
 cases h
 exact rt 0 [] S
 rcases Ao e2 with⟨a,e2⟩|⟨a,e2⟩
 rcases Ao e2 with⟨f,e2⟩|⟨f,e2⟩
 rcases Ao e2 with⟨g,e2⟩|⟨g,e2⟩
 obtain⟨s1,k,e2⟩:=Ac e2
 rcases Ao e2 with⟨j,e2⟩|⟨j,e2⟩
 rcases Ao e2 with⟨m,e2⟩|⟨m,e2⟩
 rcases Ao e2 with⟨p,e2⟩|⟨p,e2⟩
 rcases Ao e2 with⟨u,e2⟩|⟨u,e2⟩
 rcases Ao e2 with⟨v,e2⟩|⟨v,e2⟩
 rcases Ao e2 with⟨A,e2⟩|⟨A,e2⟩
 rcases Ao e2 with⟨w,e2⟩|⟨w,e2⟩
 exact mJ 1 [(1,fo a),(2,fo f),(3,fo g),(2,fk (BB _ _ _ _ k)),(1,fo j),(3,fo m),(3,fo p),(3,fo u),(3,fo v),(3,fo A),(3,fo w)] (d _ (oj e2))
 exact mJ 1 [(1,fo a),(2,fo f),(3,fo g),(2,fk (BB _ _ _ _ k)),(1,fo j),(3,fo m),(3,fo p),(3,fo u),(3,fo v),(3,fo A),(3,fo w)] (d _ (oj e2))
 exact mJ 1 [(1,fo a),(2,fo f),(3,fo g),(2,fk (BB _ _ _ _ k)),(1,fo j),(3,fo m),(3,fo p),(3,fo u),(3,fo v),(3,fo A)] (d _ (oj e2))
 exact mJ 1 [(1,fo a),(2,fo f),(3,fo g),(2,fk (BB _ _ _ _ k)),(1,fo j),(3,fo m),(3,fo p),(3,fo u),(3,fo v)] (d _ (oj e2))
 exact mJ 1 [(1,fo a),(2,fo f),(3,fo g),(2,fk (BB _ _ _ _ k)),(1,fo j),(3,fo m),(3,fo p),(3,fo u)] (d _ (oj e2))
 exact mJ 1 [(1,fo a),(2,fo f),(3,fo g),(2,fk (BB _ _ _ _ k)),(1,fo j),(3,fo m),(3,fo p)] (d _ (oj e2))
 exact mJ 1 [(1,fo a),(2,fo f),(3,fo g),(2,fk (BB _ _ _ _ k)),(1,fo j),(3,fo m)] (d _ (oj e2))
 exact mJ 1 [(1,fo a),(2,fo f),(3,fo g),(2,fk (BB _ _ _ _ k)),(1,fo j)] (d _ (oj e2))
 exact mJ 1 [(1,fo a),(2,fo f),(3,fo g)] (d _ (oj e2))
 exact mJ 1 [(1,fo a),(2,fo f)] (d _ (oj e2))
 exact mJ 1 [(1,fo a)] (d _ (oj e2))
 obtain⟨l4,C,e1⟩:=Ac e1
 obtain⟨i,M,e1⟩:=Ac e1
 rcases Ao e1 with⟨q,e1⟩|⟨q,e1⟩
 obtain⟨l5,G,e1⟩:=Ac e1
 obtain⟨i1,H,e1⟩:=Ac e1
 rcases Ao e1 with⟨x,e1⟩|⟨x,e1⟩
 obtain⟨l6,N,e1⟩:=Ac e1
 obtain⟨i2,O,e1⟩:=Ac e1
 exact mJ 1 [(2,fB A7 C),(1,fk (DS _ _ _ _ _ _ _ M)),(0,fo q),(2,fB A7 G),(1,fk (DS _ _ _ _ _ _ _ H)),(1,fo x),(2,fB A7 N),(1,fk (DS _ _ _ _ _ _ _ O))] (B _ (oj e1))
 exact mJ 1 [(2,fB A7 C),(1,fk (DS _ _ _ _ _ _ _ M)),(0,fo q),(2,fB A7 G),(1,fk (DS _ _ _ _ _ _ _ H)),(1,fo x)] (B _ (oj e1))
 exact mJ 1 [(2,fB A7 C),(1,fk (DS _ _ _ _ _ _ _ M)),(0,fo q)] (B _ (oj e1))
 rcases Ao e with⟨o,e⟩|⟨o,e⟩
 obtain⟨l7,D,e⟩:=Ac e
 obtain⟨i3,F,e⟩:=Ac e
 rcases Ao e with⟨t,e⟩|⟨t,e⟩
 obtain⟨i4,I,e⟩:=Ac e
 rcases Ao e with⟨z,e⟩|⟨z,e⟩
 obtain⟨l8,P,e⟩:=Ac e
 obtain⟨i5,R,e⟩:=Ac e
 exact mJ 1 [(3,fo o),(2,fB A7 D),(1,fk (DS _ _ _ _ _ _ _ F)),(1,fo t),(3,fk (Ls _ _ _ _ _ _ _ I rfl)),(1,fo z),(2,fB A7 P),(1,fk (DS _ _ _ _ _ _ _ R))] (hJ _ (oj e))
 exact mJ 1 [(3,fo o),(2,fB A7 D),(1,fk (DS _ _ _ _ _ _ _ F)),(1,fo t),(3,fk (Ls _ _ _ _ _ _ _ I rfl)),(1,fo z)] (hJ _ (oj e))
 exact mJ 1 [(3,fo o),(2,fB A7 D),(1,fk (DS _ _ _ _ _ _ _ F)),(1,fo t)] (hJ _ (oj e))
 exact mJ 1 [(3,fo o)] (hJ _ (oj e))
theorem Kh (r:Bool)(h:QQ=some r):Cz Tryz.prog 9 [] (bP r):=Q2 60 r h
end Go.Proofs.YtehfpameijkafaaGreatDoor
namespace Go.Proofs.YtehfpameijkafaaGreatDoor
open Go.RowKit Go.Q Go.Vl Go.Sp
set_option maxRecDepth 100000
set_option linter.unusedSimpArgs false
set_option maxHeartbeats 4000000
set_option linter.unusedVariables false
theorem Ou (n0:Nat)
 (ih_law34_digits:∀ m,m<=n0->∀ (n_:Int) (r:Å),B2 m n_=some r->Cz Tryz.prog 23 [iP n_] (tP r))
 (n:Nat) (hn:n<=n0) (n_:Int) (r:Å) (h:B2 (n+1) n_=some r):Cz Tryz.prog 23 [iP n_] (tP r):=by
 replace h:=(B2.eq_2 ..).symm.trans h
 refine vP ⟨[0,2,4],[]⟩ Tryz.func23 follows fun Q b=>?_
 refine cD 2 [] h (fun c h=>?_) fun c h=>?_
 obtain⟨l,e,h⟩:=Ac h
 cases h
 exact rt 1 [(3,fB Ly e),(0,fg Ly (fun _=>rfl) l)] b
 obtain⟨d,f,h⟩:=Ac h
 obtain⟨d1,a,h⟩:=Ac h
 obtain⟨s,hs,h⟩:=Ac h
 cases h
 exact rt 1 [(2,fk (ih_law34_digits _ hn _ _ f)),(2,fk (ih_law34_digits _ hn _ _ a)),(0,fc hs)] b
theorem I7:∀ n:Nat,(∀ m,m<=n->∀ (n_:Int) (r:Å),B2 m n_=some r->Cz Tryz.prog 23 [iP n_] (tP r))
 |0=>(fun m hm n_ r h=>by
  obtain rfl:m=0:=by omega
  exact absurd h (by simp [B2]))
 |n+1=>by
  have ih:=I7 n
  exact fun m hm n_ r h=>by
   cases m with
   |zero=>exact absurd h (by simp [B2])
   |succ m=>exact Ou n (ih) m (by omega) n_ _ h
theorem Q3 (n:Nat)(n_:Int)(r:Å)(h:B2 n n_=some r):Cz Tryz.prog 23 [iP n_] (tP r) :=
 (I7 n) n (Ü _) n_ r h
theorem Ag (n_:Int)(r:Int)(h:As n_=some r):Cz Tryz.prog 24 [.lit (.int .u16 n_)] (iP r):=by
 unfold As at h
 refine vP ⟨[0,2],[]⟩ Tryz.func24 follows fun Q a=>?_
 cases h
 exact rt 2 [] a
theorem Jj (n:Nat)(s:Ef)(days:(Int×Int))(r:Bool)(h:Dq n s days=some r):Cz Tryz.prog 7 [.agg (P2 s),.agg [.lit (.int .u16 days.1),.lit (.int .u16 days.2)]] (bP r):=by
 unfold Dq at h
 refine vP ⟨[0,1,2,3,4,5,6,7,8,9,10,11,12,13,14,15,28,83,98,133],[(5,[9995]),(6,[9999,0,0,1,2,4,5,6,3,7,8,9])]⟩ Tryz.func7 follows fun Q hQ=>?_
 obtain⟨d,hd,h⟩:=Ac h
 obtain⟨s1,hs1,h⟩:=Ac h
 obtain⟨s2,hs2,h⟩:=Ac h
 obtain⟨c,hc,h⟩:=Ac h
 refine cD 3 [(6,fk (Q3 _ _ _ hd)),(0,fc hs1),(0,fc hs2),(0,fk (I5 _ _ _ hc))] h (fun K h=>?_) fun K h=>?_
 cases h
 exact rt 1 [] hQ
 obtain⟨d1,L,h⟩:=Ac h
 obtain⟨d2,F,h⟩:=Ac h
 obtain⟨d3,q,h⟩:=Ac h
 obtain⟨d4,g,h⟩:=Ac h
 obtain⟨d5,f,h⟩:=Ac h
 obtain⟨d6,b,h⟩:=Ac h
 obtain⟨d7,a,h⟩:=Ac h
 obtain⟨l,t,h⟩:=Ac h
 refine wl 1 [] ?_
 refine xE 9 [.no,.no,.no,.call (iP d1),.no,.no,.no,.call (iP d2),.no,.no,.no,.call (iP d3),.no,.no,.no,.no,.call (iP d4),.no,.no,.no,.call (iP d5),.no,.no,.no,.no,.call (iP d6),.no,.no,.no,.call (iP d7),.no,.val (oZ l),.no,.no,.no] ⟨[(2,.ptr 0 0),(3,.ptr 1 0),(4,bP false),(5,hC c.1),(7,.fno true 24 []),(8,.ptr 3 0)],[P2 s,[.lit (.int .u16 days.1),.lit (.int .u16 days.2)],[iP c.2.At,iP c.2.E],[hZ l,iP d1,iP 7]]⟩ (And.intro (And.intro (Ag s.Stored d1 L) (And.intro (And.intro (Ag s.Asked d2 F) (And.intro (And.intro (Ag s.KnownAsked d3 q) (And.intro (And.intro (Ag s.Held d4 g) (And.intro (And.intro (Ag s.KnownHeld d5 f) (And.intro (And.intro (Ag s.Lifted d6 b) (And.intro (And.intro (Ag s.KnownLifted d7 a) (And.intro (And.intro (fB BC t).h True.intro) (And.intro (And.intro (fB BC t).h True.intro) True.intro))) (And.intro (And.intro (Ag s.KnownLifted d7 a) (And.intro (fB BC t).h True.intro)) True.intro))) (And.intro (And.intro (Ag s.Lifted d6 b) (And.intro (Ag s.KnownLifted d7 a) (And.intro (fB BC t).h True.intro))) True.intro))) (And.intro (And.intro (Ag s.KnownHeld d5 f) (And.intro (Ag s.Lifted d6 b) (And.intro (Ag s.KnownLifted d7 a) (And.intro (fB BC t).h True.intro)))) True.intro))) (And.intro (And.intro (Ag s.Held d4 g) (And.intro (Ag s.KnownHeld d5 f) (And.intro (Ag s.Lifted d6 b) (And.intro (Ag s.KnownLifted d7 a) (And.intro (fB BC t).h True.intro))))) True.intro))) (And.intro (And.intro (Ag s.KnownAsked d3 q) (And.intro (Ag s.Held d4 g) (And.intro (Ag s.KnownHeld d5 f) (And.intro (Ag s.Lifted d6 b) (And.intro (Ag s.KnownLifted d7 a) (And.intro (fB BC t).h True.intro)))))) True.intro))) (And.intro (And.intro (Ag s.Asked d2 F) (And.intro (Ag s.KnownAsked d3 q) (And.intro (Ag s.Held d4 g) (And.intro (Ag s.KnownHeld d5 f) (And.intro (Ag s.Lifted d6 b) (And.intro (Ag s.KnownLifted d7 a) (And.intro (fB BC t).h True.intro))))))) True.intro))) (And.intro (And.intro (Ag s.Stored d1 L) (And.intro (Ag s.Asked d2 F) (And.intro (Ag s.KnownAsked d3 q) (And.intro (Ag s.Held d4 g) (And.intro (Ag s.KnownHeld d5 f) (And.intro (Ag s.Lifted d6 b) (And.intro (Ag s.KnownLifted d7 a) (And.intro (fB BC t).h True.intro)))))))) True.intro)) ?_
 obtain⟨day,M,h⟩:=Ac h
 obtain⟨known,u,h⟩:=Ac h
 refine mE 2 [(6,fk (Ag _ _ M)),(0,fk (Ag _ _ u))] h (fun v83=>⟨[(2,.ptr 0 0),(4,bP false),(5,hC c.1),(7,.fno true 24 []),(8,.ptr 3 0),(9,iP day),(10,iP known),(11,iP 0),(83,bP v83)],[P2 s,[.lit (.int .u16 days.1),.lit (.int .u16 days.2)],[iP c.2.At,iP c.2.E],[hZ l,iP d1,iP 7]]⟩) ?_ fun y e hJ=>?_
 rintro v83 h
 refine mE 0 [] h (fun want=>⟨[(2,.ptr 0 0),(4,bP false),(5,hC c.1),(7,.fno true 24 []),(8,.ptr 3 0),(9,iP day),(10,iP known),(11,iP want)],[P2 s,[.lit (.int .u16 days.1),.lit (.int .u16 days.2)],[iP c.2.At,iP c.2.E],[hZ l,iP d1,iP 7]]⟩) ?_ fun y1 e1 N=>?_
 rintro want h
 refine mE 0 [] h (fun v98=>⟨[(2,.ptr 0 0),(4,bP false),(5,hC c.1),(7,.fno true 24 []),(8,.ptr 3 0),(9,iP day),(10,iP known),(11,iP want),(98,bP v98)],[P2 s,[.lit (.int .u16 days.1),.lit (.int .u16 days.2)],[iP c.2.At,iP c.2.E],[hZ l,iP d1,iP 7]]⟩) ?_ fun y2 e2 O=>?_
 rintro v98 h
 refine mE 0 [] h (fun Kb=>⟨[(2,.ptr 0 0),(4,bP false),(5,hC c.1),(7,.fno true 24 []),(8,.ptr 3 0),(9,iP day),(10,iP known),(11,iP Kb)],[P2 s,[.lit (.int .u16 days.1),.lit (.int .u16 days.2)],[iP c.2.At,iP c.2.E],[hZ l,iP d1,iP 7]]⟩) ?_ fun y3 e3 P=>?_
 rintro Kb h
 refine mE 0 [] h (fun i=>⟨[(2,.ptr 0 0),(4,bP false),(5,hC c.1),(7,.fno true 24 []),(8,.ptr 3 0),(9,iP day),(10,iP known),(11,iP Kb),(12,bP i)],[P2 s,[.lit (.int .u16 days.1),.lit (.int .u16 days.2)],[iP c.2.At,iP c.2.E],[hZ l,iP d1,iP 7]]⟩) ?_ fun y4 e4 R=>?_
 rintro i h
 refine mE 0 [] h (fun lifted=>⟨[(4,bP false),(5,hC c.1),(8,.ptr 3 0),(9,iP day),(10,iP known),(11,iP Kb),(12,bP i),(13,bP lifted)],[P2 s,[.lit (.int .u16 days.1),.lit (.int .u16 days.2)],[iP c.2.At,iP c.2.E],[hZ l,iP d1,iP 7]]⟩) ?_ fun y5 e5 S=>?_
 rintro lifted h
 refine mE 0 [] h (fun v133=>⟨[(4,bP false),(5,hC c.1),(8,.ptr 3 0),(9,iP day),(10,iP known),(11,iP Kb),(133,bP v133)],[P2 s,[.lit (.int .u16 days.1),.lit (.int .u16 days.2)],[iP c.2.At,iP c.2.E],[hZ l,iP d1,iP 7]]⟩) ?_ fun y6 e6 T=>?_
 rintro v133 h
 refine cD 0 [] h (fun hc7 h=>?_) fun hc7 h=>?_
 obtain⟨a_,ha_,h⟩:=Ac h
 refine mE 2 [(5,fk (OU _ _ _ _ _ _ ha_))] h (fun v4=>⟨[(4,bP v4)],[P2 s,[.lit (.int .u16 days.1),.lit (.int .u16 days.2)],[iP c.2.At,iP c.2.E],[hZ l,iP d1,iP 7],[iP a_.1.State,iP a_.1.Houses,hI a_.1.By]]⟩) ?_ fun y7 e7 v=>?_
 rintro v4 h
 cases h
 exact rt 0 [] hQ
 obtain⟨s3,w,e7⟩:=Ac e7
 rcases Ao e7 with⟨j,e7⟩|⟨j,e7⟩
 rcases Ao e7 with⟨x,e7⟩|⟨x,e7⟩
 rcases Ao e7 with⟨G,e7⟩|⟨G,e7⟩
 exact mJ 1 [(0,fk (Kh _ w)),(0,fo j),(3,fo x),(5,fo G)] (v _ (oj e7))
 exact mJ 1 [(0,fk (Kh _ w)),(0,fo j),(3,fo x),(5,fo G)] (v _ (oj e7))
 exact mJ 1 [(0,fk (Kh _ w)),(0,fo j),(3,fo x)] (v _ (oj e7))
 exact mJ 1 [(0,fk (Kh _ w)),(0,fo j)] (v _ (oj e7))
 obtain⟨a_1,U,h⟩:=Ac h
 refine mE 1 [(4,fk (OU _ _ _ _ _ _ U))] h (fun v41=>⟨[(4,bP v41)],[P2 s,[.lit (.int .u16 days.1),.lit (.int .u16 days.2)],[iP c.2.At,iP c.2.E],[hZ l,iP d1,iP 7],[iP a_1.1.State,iP a_1.1.Houses,hI a_1.1.By]]⟩) ?_ fun y8 e8 z=>?_
 rintro v41 h
 cases h
 exact rt 0 [] hQ
 obtain⟨s4,A,e8⟩:=Ac e8
 rcases Ao e8 with⟨k,e8⟩|⟨k,e8⟩
 rcases Ao e8 with⟨B,e8⟩|⟨B,e8⟩
 rcases Ao e8 with⟨H,e8⟩|⟨H,e8⟩
 exact mJ 1 [(0,fk (Kh _ A)),(0,fo k),(3,fo B),(5,fo H)] (z _ (oj e8))
 exact mJ 1 [(0,fk (Kh _ A)),(0,fo k),(3,fo B),(5,fo H)] (z _ (oj e8))
 exact mJ 1 [(0,fk (Kh _ A)),(0,fo k),(3,fo B)] (z _ (oj e8))
 exact mJ 1 [(0,fk (Kh _ A)),(0,fo k)] (z _ (oj e8))
 rcases Ao e6 with⟨I,e6⟩|⟨I,e6⟩
 exact mJ 1 [(1,fo I)] (T _ (oj e6))
 exact mJ 1 [(1,fo I)] (T _ (oj e6))
 obtain⟨d8,V,e5⟩:=Ac e5
 rcases Ao e5 with⟨J,e5⟩|⟨J,e5⟩
 obtain⟨d9,hd9,e5⟩:=Ac e5
 exact mJ 1 [(3,fk (Ag _ _ V)),(2,fo J),(4,fk (Ag _ _ hd9))] (S _ (oj e5))
 exact mJ 1 [(3,fk (Ag _ _ V)),(2,fo J)] (S _ (oj e5))
 obtain⟨d10,C,e4⟩:=Ac e4
 rcases Ao e4 with⟨m,e4⟩|⟨m,e4⟩
 obtain⟨d11,W,e4⟩:=Ac e4
 exact mJ 1 [(3,fk (Ag _ _ C)),(2,fo m),(3,fk (Ag _ _ W))] (R _ (oj e4))
 exact mJ 1 [(3,fk (Ag _ _ C)),(2,fo m)] (R _ (oj e4))
 refine cD 0 [] e3 (fun X e3=>?_) fun X e3=>?_
 exact mJ 1 [] (P _ (oj e3))
 exact mJ 0 [] (P _ (oj e3))
 rcases Ao e2 with⟨o,e2⟩|⟨o,e2⟩
 exact mJ 1 [(4,fo o)] (O _ (oj e2))
 exact mJ 1 [(4,fo o)] (O _ (oj e2))
 refine cD 0 [] e1 (fun Y e1=>?_) fun Y e1=>?_
 exact mJ 1 [] (N _ (oj e1))
 exact mJ 0 [] (N _ (oj e1))
 obtain⟨d12,D,e⟩:=Ac e
 rcases Ao e with⟨p,e⟩|⟨p,e⟩
 obtain⟨d13,Z,e⟩:=Ac e
 exact mJ 1 [(3,fk (Ag _ _ D)),(2,fo p),(3,fk (Ag _ _ Z))] (hJ _ (oj e))
 exact mJ 1 [(3,fk (Ag _ _ D)),(2,fo p)] (hJ _ (oj e))
end Go.Proofs.YtehfpameijkafaaGreatDoor
