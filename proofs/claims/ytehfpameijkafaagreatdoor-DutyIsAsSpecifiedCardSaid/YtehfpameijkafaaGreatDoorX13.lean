/-
  The program's questions of order. The walks of duty: the stable sort. (Printed by lift.py.) Sorts of nothing. The walk of operations: whatever order the map is gone through, the table is one of the lists. (Most lines printed by lift.py.) The walks of names and made: the solver, whatever order the table of operations is in. The walks of statute: the operations: the program computes the plain functions. (Printed by lift.py.) The walks of statute: find: the program computes the plain functions. (Printed by lift.py.) The walks of statute: value: the program computes the plain functions. (Printed by lift.py.) The walks of find and value, for callers: in every order of the table. The walks of statute: Known, Check, Span: the program computes the plain functions. (Printed by lift.py.) The walks of duty: spans. (Printed by lift.py.) The walks of duty: at, breaks. (Printed by lift.py.) breaks' iterator. The walks of duty: Stretches, At, Bounds. (Printed by lift.py.) slices.Clone of spans. The walks of duty: Learned. (Printed by lift.py.) The walks of statute: operators and parser: the program computes the plain functions. (Printed by lift.py.) The lexers as plain functions; no program. (Printed by lift.py, but for the library.)
-/
import Derived.Test.YtehfpameijkafaaGreatDoorChecked
import Derived.RangeFuncBox
import Derived.Shelf.Abstract
import Derived.OwnWalkIn
import Derived.TacticsInMore
import Derived.LoopNIn
import Derived.LoopIn
import Derived.Lib.RowBridge
import Derived.Shelf.Strconv.AtoiAll
import Derived.Shelf.Strings.Fields
import Derived.Shelf.Strings.Prefix
import Derived.Test.YtehfpameijkafaaGreatDoorX4
import Derived.Test.YtehfpameijkafaaGreatDoorX6
import Derived.Test.YtehfpameijkafaaGreatDoorX8
import Derived.Test.YtehfpameijkafaaGreatDoorX11
set_option linter.unusedVariables false
set_option linter.unusedSimpArgs false
namespace Go.Proofs.YtehfpameijkafaaGreatDoor
open Go Go.Vl
theorem follows:Tryz.prog.follows .mixedOrders=true:=by kernel_rfl
end Go.Proofs.YtehfpameijkafaaGreatDoor
namespace Go.Proofs.YtehfpameijkafaaGreatDoor
open Go.RowKit Go.Q Go.Vl Go.Sp
set_option maxRecDepth 100000
set_option linter.unusedSimpArgs false
set_option maxHeartbeats 4000000
set_option linter.unusedVariables false
theorem HR (cv1:(List Aa))(a_:Ae)(b:Ae)(r:Int)(h:DE cv1 a_ b=some r):BZ Tryz.prog 49 [.agg (kX6 a_),.agg (kX6 b),.vptr [hC cv1] 0] (iP r):=by
 unfold DE at h
 refine vP ⟨[0,1,2,3,4,5],[(1,[9999,0,0,1,2,3,4,5,6,7,8,9,10,11,12,13])]⟩ Tryz.func49 follows fun Q c=>?_
 obtain⟨x,d,h⟩:=Ab h
 obtain⟨x1,a,h⟩:=Ab h
 cases h
 exact rt 2 [(6,fi As d),(5,fi As a)] c
theorem DF (n:Nat)(cv1:(List Aa))(n_:Nat)(data:(List Ae))(a_:Int)(b:Int)(cap_ m_:Nat)(r:(List Ae))(h:AA n cv1 n_ data a_ b=some r):JW Tryz.prog 119 [.asl 0 0 n_ cap_,iP a_,iP b,.fno true 49 [.vptr [hC cv1] 0]] [DQ (data.map Ak.vals) m_] (.ret (.tup [])) [DQ (r.map Ak.vals) m_]:=by
 unfold AA at h
 refine vS ⟨[0,1,2,3,8,9,14,34],[(4,[9999,0,0,1,2,3,4,5,6,7,8,9,10,11,12,13,14,15,16]),(6,[9999,0,0,1,2,3,4,5,6,7,8,9,10,11,12,13,14,15,16,17])]⟩ Tryz.func119 follows fun Q w=>?_
 refine mE 1 [] h (fun data1=>⟨[],[DQ (data1.map Ak.vals) m_]⟩) ?_ fun y e hJ=>?_
 rintro data1 h
 cases h
 exact rt 0 [] w
 refine lF 1 [] (A:=(Int×(List Ae))) (fun n (i,data2)=>AD n b a_ n_ cv1 i data2) (fun (i,data2)=>⟨[(0,.asl 0 0 n_ cap_),(1,iP a_),(2,iP b),(3,.fno true 49 [.vptr [hC cv1] 0]),(8,iP i)],[DQ (data2.map Ak.vals) m_]⟩) ((À (a_+1)),data) e (fun _=>rfl) ?_
 rintro n ⟨i,data2⟩ e ih
 replace e:=(AD.eq_2 ..).symm.trans e
 refine cD 1 [] e (fun k e=>?_) fun k e=>?_
 refine mE 2 [] e (fun data3=>⟨[(0,.asl 0 0 n_ cap_),(1,iP a_),(2,iP b),(3,.fno true 49 [.vptr [hC cv1] 0]),(8,iP i)],[DQ (data3.map Ak.vals) m_]⟩) ?_ fun y1 e1 l=>?_
 rintro data3 e
 exact mJ 1 [] (ih (_,_) e)
 refine lF 1 [] (A:=(Int×(List Ae))) (fun n (j,data4)=>Aw n a_ n_ cv1 j data4) (fun (j,data4)=>⟨[(0,.asl 0 0 n_ cap_),(1,iP a_),(2,iP b),(3,.fno true 49 [.vptr [hC cv1] 0]),(8,iP i),(9,iP j)],[DQ (data4.map Ak.vals) m_]⟩) (i,data2) e1 (fun _=>rfl) ?_
 rintro n ⟨j,data4⟩ e1 m
 replace e1:=(Aw.eq_2 ..).symm.trans e1
 refine mE 0 [] e1 (fun v34=>⟨[(0,.asl 0 0 n_ cap_),(1,iP a_),(2,iP b),(3,.fno true 49 [.vptr [hC cv1] 0]),(8,iP i),(9,iP j),(34,bP v34)],[DQ (data4.map Ak.vals) m_]⟩) ?_ fun y2 e2 f=>?_
 rintro v34 e1
 refine cD 0 [] e1 (fun z e1=>?_) fun z e1=>?_
 obtain⟨_,v,e1⟩:=Ab e1
 obtain⟨x,B,e1⟩:=Ab e1
 obtain⟨_,g,e1⟩:=Ab e1
 obtain⟨x1,o,e1⟩:=Ab e1
 obtain⟨data5,a,e1⟩:=Ab e1
 obtain⟨data6,c,e1⟩:=Ab e1
 exact mJ 3 [(8,MS 0 3 n_ (D7 v)),(0,WD Ak m_ B),(2,MS 0 3 n_ (D7 g)),(0,WD Ak m_ o),(0,MS 0 3 n_ (D7 g)),(0,fsE Ak m_ a),(0,MS 0 3 n_ (D7 v)),(0,fsE Ak m_ c)] (m (_,_) e1)
 exact mJ 1 [] (l _ (oj e1))
 rcases Aj e2 with⟨d,e2⟩|⟨d,e2⟩
 obtain⟨_,p,e2⟩:=Ab e2
 obtain⟨x2,q,e2⟩:=Ab e2
 obtain⟨_,t,e2⟩:=Ab e2
 obtain⟨x3,u,e2⟩:=Ab e2
 obtain⟨s,hs,e2⟩:=Ab e2
 exact mJ 1 [(3,fo d),(3,MS 0 3 n_ (D7 p)),(0,WD Ak m_ q),(3,MS 0 3 n_ (D7 t)),(0,WD Ak m_ u),(0,fk (HR _ _ _ _ hs))] (f _ (oj e2))
 exact mJ 1 [(3,fo d)] (f _ (oj e2))
 exact mJ 1 [] (hJ _ (oj e))
theorem CQ (n:Nat)(cv1:(List Aa))(n_:Nat)(data:(List Ae))(a_:Int)(b:Int)(n_1:Int)(cap_ m_:Nat)(r:(List Ae))(h:Bn n cv1 n_ data a_ b n_1=some r):JW Tryz.prog 164 [.asl 0 0 n_ cap_,iP a_,iP b,iP n_1,.fno true 49 [.vptr [hC cv1] 0]] [DQ (data.map Ak.vals) m_] (.ret (.tup [])) [DQ (r.map Ak.vals) m_]:=by
 unfold Bn at h
 refine vS ⟨[0,1,2,3,4,10,13],[(3,[9999,0,0,1,2,3,4,5,6,7,8,9,10,11,12,13,14,15,16,17,18,19,20,21,22,23])]⟩ Tryz.func164 follows fun Q j=>?_
 refine mE 1 [] h (fun data1=>⟨[],[DQ (data1.map Ak.vals) m_]⟩) ?_ fun y e hJ=>?_
 rintro data1 h
 cases h
 exact rt 0 [] j
 refine lF 1 [] (A:=(Int×(List Ae))) (fun n (i,data2)=>AM n n_1 n_ b a_ i data2) (fun (i,data2)=>⟨[(0,.asl 0 0 n_ cap_),(1,iP a_),(2,iP b),(3,iP n_1),(10,iP i)],[DQ (data2.map Ak.vals) m_]⟩) (0,data) e (fun _=>rfl) ?_
 rintro n ⟨i,data2⟩ e ih
 replace e:=(AM.eq_2 ..).symm.trans e
 refine cD 1 [] e (fun k e=>?_) fun k e=>?_
 obtain⟨_,g,e⟩:=Ab e
 obtain⟨x,l,e⟩:=Ab e
 obtain⟨_,d,e⟩:=Ab e
 obtain⟨x1,f,e⟩:=Ab e
 obtain⟨data3,a,e⟩:=Ab e
 obtain⟨data4,c,e⟩:=Ab e
 exact mJ 3 [(12,MS 0 3 n_ (D7 g)),(0,WD Ak m_ l),(4,MS 0 3 n_ (D7 d)),(0,WD Ak m_ f),(0,MS 0 3 n_ (D7 d)),(0,fsE Ak m_ a),(0,MS 0 3 n_ (D7 g)),(0,fsE Ak m_ c)] (ih (_,_) e)
 exact mJ 1 [] (hJ _ (oj e))
theorem It (n:Nat)(cv1:(List Aa))(n_:Nat)(data:(List Ae))(a_:Int)(m_1:Int)(b:Int)(cap_ m_:Nat)(r:(List Ae))(h:B2 n cv1 n_ data a_ m_1 b=some r):JW Tryz.prog 148 [.asl 0 0 n_ cap_,iP a_,iP m_1,iP b,.fno true 49 [.vptr [hC cv1] 0]] [DQ (data.map Ak.vals) m_] (.ret (.tup [])) [DQ (r.map Ak.vals) m_]:=by
 unfold B2 at h
 refine vS ⟨[0,1,2,3,4,10,11,20,23],[]⟩ Tryz.func148 follows fun Q g=>?_
 refine mE 2 [] h (fun (i,data1)=>⟨[(0,.asl 0 0 n_ cap_),(2,iP m_1),(4,.fno true 49 [.vptr [hC cv1] 0]),(10,iP i)],[DQ (data1.map Ak.vals) m_]⟩) ?_ fun y e hJ=>?_
 rintro⟨i,data1⟩ h
 obtain⟨data2,a,h⟩:=Ab h
 cases h
 exact rt 1 [(7,fs (CQ _ _ _ _ _ _ _ cap_ m_ _ a))] g
 refine lF 1 [] (A:=(Int×Int×(List Ae))) (fun n (i1,j,data3)=>A1 n cv1 n_ m_1 i1 j data3) (fun (i1,j,data3)=>⟨[(0,.asl 0 0 n_ cap_),(2,iP m_1),(4,.fno true 49 [.vptr [hC cv1] 0]),(10,iP i1),(11,iP j)],[DQ (data3.map Ak.vals) m_]⟩) ((À (m_1-a_)),(À (b-m_1)),data) e (fun _=>rfl) ?_
 rintro n ⟨i1,j,data3⟩ e ih
 replace e:=(A1.eq_2 ..).symm.trans e
 refine cD 1 [] e (fun f e=>?_) fun f e=>?_
 refine cD 2 [] e (fun k e=>?_) fun k e=>?_
 obtain⟨data4,c,e⟩:=Ab e
 exact mJ 2 [(7,fs (CQ _ _ _ _ _ _ _ cap_ m_ _ c))] (ih (_,_,_) e)
 obtain⟨data5,d,e⟩:=Ab e
 exact mJ 2 [(11,fs (CQ _ _ _ _ _ _ _ cap_ m_ _ d))] (ih (_,_,_) e)
 exact mJ 1 [] (hJ _ (oj e))
theorem Hl (n0:Nat)
 (ih_slices_symMergeCmpFunc_120_49:∀ m,m<=n0->∀ (cv1:(List Aa)) (n_:Nat) (data:(List Ae)) (a_:Int) (m_1:Int) (b:Int) (cap_ m_:Nat) (r:(List Ae)),Ap m cv1 n_ data a_ m_1 b=some r->JW Tryz.prog 120 [.asl 0 0 n_ cap_,iP a_,iP m_1,iP b,.fno true 49 [.vptr [hC cv1] 0]] [DQ (data.map Ak.vals) m_] (.ret (.tup [])) [DQ (r.map Ak.vals) m_])
 (n:Nat) (hn:n<=n0) (cv1:(List Aa)) (n_:Nat) (data:(List Ae)) (a_:Int) (m_1:Int) (b:Int) (cap_ m_:Nat) (r:(List Ae)) (h:Ap (n+1) cv1 n_ data a_ m_1 b=some r):JW Tryz.prog 120 [.asl 0 0 n_ cap_,iP a_,iP m_1,iP b,.fno true 49 [.vptr [hC cv1] 0]] [DQ (data.map Ak.vals) m_] (.ret (.tup [])) [DQ (r.map Ak.vals) m_]:=by
 replace h:=(Ap.eq_2 ..).symm.trans h
 refine vS ⟨[0,1,2,3,4,10,11,12,13,14,15,16,17,18,19,20,21,22,23,24,28,33,50,58,80,85,103,110,140,151,171,185,199,213],[(5,[9999,0,0,1,2,3,4,5,6,7,8,9,10]),(11,[9999,0,0,1,2,3,4,5,6,7,8,9,10,11,12,13,14,15,16,17]),(17,[9999,0,0,1,2,3,4,5,6,7,8,9,10,11]),(23,[9999,0,0,1,2,3,4,5,6,7,8,9,10,11,12,13,14,15,16,17]),(35,[9999,0,0,1,2,3,4,5,6,7,8,9,10,11,12,13])]⟩ Tryz.func120 follows fun Q P=>?_
 refine cD 1 [] h (fun v h=>?_) fun v h=>?_
 refine mE 2 [] h (fun i=>⟨[(0,.asl 0 0 n_ cap_),(1,iP a_),(2,iP m_1),(3,iP b),(4,.fno true 49 [.vptr [hC cv1] 0]),(10,iP i)],[DQ (data.map Ak.vals) m_]⟩) ?_ fun y e hJ=>?_
 rintro i h
 refine mE 1 [] h (fun data1=>⟨[(0,.asl 0 0 n_ cap_),(1,iP a_),(2,iP m_1),(3,iP b),(4,.fno true 49 [.vptr [hC cv1] 0])],[DQ (data1.map Ak.vals) m_]⟩) ?_ fun y1 e1 R=>?_
 rintro data1 h
 cases h
 exact rt 0 [] P
 refine lR 1 [] (A:=(Int×(List Ae))) (fun n (k,data2)=>AT n i n_ k data2) (fun (k,data2)=>⟨[(0,.asl 0 0 n_ cap_),(1,iP a_),(2,iP m_1),(3,iP b),(4,.fno true 49 [.vptr [hC cv1] 0]),(10,iP i),(13,iP k)],[DQ (data2.map Ak.vals) m_]⟩) (a_,data) hn e1 (fun _=>rfl) ?_
 rintro n ⟨k,data2⟩ hn e1 ih
 replace e1:=(AT.eq_2 ..).symm.trans e1
 refine cD 1 [] e1 (fun hc e1=>?_) fun hc e1=>?_
 obtain⟨_,hu,e1⟩:=Ab e1
 obtain⟨x,hx,e1⟩:=Ab e1
 obtain⟨_,w,e1⟩:=Ab e1
 obtain⟨x1,S,e1⟩:=Ab e1
 obtain⟨data3,g,e1⟩:=Ab e1
 obtain⟨data4,l,e1⟩:=Ab e1
 exact mJ 3 [(8,MS 0 3 n_ (D7 hu)),(0,WD Ak m_ hx),(2,MS 0 3 n_ (D7 w)),(0,WD Ak m_ S),(0,MS 0 3 n_ (D7 w)),(0,fsE Ak m_ g),(0,MS 0 3 n_ (D7 hu)),(0,fsE Ak m_ l)] (ih (_,_) e1)
 exact mJ 1 [] (R _ (oj e1))
 refine lR 1 [] (A:=(Int×Int)) (fun n (i1,j)=>A3 n n_ data a_ cv1 i1 j) (fun (i1,j)=>⟨[(0,.asl 0 0 n_ cap_),(1,iP a_),(2,iP m_1),(3,iP b),(4,.fno true 49 [.vptr [hC cv1] 0]),(10,iP i1),(11,iP j)],[DQ (data.map Ak.vals) m_]⟩) (m_1,b) hn e (fun _=>rfl) ?_
 rintro n ⟨i1,j⟩ hn e z
 replace e:=(A3.eq_2 ..).symm.trans e
 refine cD 1 [] e (fun T e=>?_) fun T e=>?_
 obtain⟨_,U,e⟩:=Ab e
 obtain⟨x2,V,e⟩:=Ab e
 obtain⟨_,W,e⟩:=Ab e
 obtain⟨x3,X,e⟩:=Ab e
 obtain⟨s,hs,e⟩:=Ab e
 refine cD 3 [(10,MS 0 3 n_ (D7 U)),(0,WD Ak m_ V),(2,MS 0 3 n_ (D7 W)),(0,WD Ak m_ X),(0,fk (HR _ _ _ _ hs))] e (fun Y e=>?_) fun Y e=>?_
 exact mJ 1 [] (z (_,_) e)
 exact mJ 1 [] (z (_,_) e)
 exact mJ 1 [] (hJ _ (oj e))
 refine cD 1 [] h (fun B h=>?_) fun B h=>?_
 refine mE 2 [] h (fun i2=>⟨[(0,.asl 0 0 n_ cap_),(1,iP a_),(2,iP m_1),(3,iP b),(4,.fno true 49 [.vptr [hC cv1] 0]),(14,iP i2)],[DQ (data.map Ak.vals) m_]⟩) ?_ fun y2 e2 Z=>?_
 rintro i2 h
 refine mE 1 [] h (fun data5=>⟨[(0,.asl 0 0 n_ cap_),(1,iP a_),(2,iP m_1),(3,iP b),(4,.fno true 49 [.vptr [hC cv1] 0])],[DQ (data5.map Ak.vals) m_]⟩) ?_ fun y3 e3 hJ3=>?_
 rintro data5 h
 cases h
 exact rt 0 [] P
 refine lR 1 [] (A:=(Int×(List Ae))) (fun n (k1,data6)=>AS n i2 n_ k1 data6) (fun (k1,data6)=>⟨[(0,.asl 0 0 n_ cap_),(1,iP a_),(2,iP m_1),(3,iP b),(4,.fno true 49 [.vptr [hC cv1] 0]),(14,iP i2),(17,iP k1)],[DQ (data6.map Ak.vals) m_]⟩) (m_1,data) hn e3 (fun _=>rfl) ?_
 rintro n ⟨k1,data6⟩ hn e3 ih2
 replace e3:=(AS.eq_2 ..).symm.trans e3
 refine cD 1 [] e3 (fun hc3 e3=>?_) fun hc3 e3=>?_
 obtain⟨_,C,e3⟩:=Ab e3
 obtain⟨x4,hx4,e3⟩:=Ab e3
 obtain⟨_,D,e3⟩:=Ab e3
 obtain⟨x5,hx5,e3⟩:=Ab e3
 obtain⟨data7,o,e3⟩:=Ab e3
 obtain⟨data8,p,e3⟩:=Ab e3
 exact mJ 3 [(8,MS 0 3 n_ (D7 C)),(0,WD Ak m_ hx4),(2,MS 0 3 n_ (D7 D)),(0,WD Ak m_ hx5),(0,MS 0 3 n_ (D7 D)),(0,fsE Ak m_ o),(0,MS 0 3 n_ (D7 C)),(0,fsE Ak m_ p)] (ih2 (_,_) e3)
 exact mJ 1 [] (hJ3 _ (oj e3))
 refine lR 1 [] (A:=(Int×Int)) (fun n (i3,j1)=>A2 n n_ m_1 data cv1 i3 j1) (fun (i3,j1)=>⟨[(0,.asl 0 0 n_ cap_),(1,iP a_),(2,iP m_1),(3,iP b),(4,.fno true 49 [.vptr [hC cv1] 0]),(14,iP i3),(15,iP j1)],[DQ (data.map Ak.vals) m_]⟩) (a_,m_1) hn e2 (fun _=>rfl) ?_
 rintro n ⟨i3,j1⟩ hn e2 E
 replace e2:=(A2.eq_2 ..).symm.trans e2
 refine cD 1 [] e2 (fun hc5 e2=>?_) fun hc5 e2=>?_
 obtain⟨_,hu6,e2⟩:=Ab e2
 obtain⟨x6,hx6,e2⟩:=Ab e2
 obtain⟨_,hu7,e2⟩:=Ab e2
 obtain⟨x7,hx7,e2⟩:=Ab e2
 obtain⟨s1,hs1,e2⟩:=Ab e2
 refine cD 3 [(10,MS 0 3 n_ (D7 hu6)),(0,WD Ak m_ hx6),(2,MS 0 3 n_ (D7 hu7)),(0,WD Ak m_ hx7),(0,fk (HR _ _ _ _ hs1))] e2 (fun hc4 e2=>?_) fun hc4 e2=>?_
 exact mJ 1 [] (E (_,_) e2)
 exact mJ 1 [] (E (_,_) e2)
 exact mJ 1 [] (Z _ (oj e2))
 refine mE 4 [] h (fun (start,r_)=>⟨[(0,.asl 0 0 n_ cap_),(1,iP a_),(2,iP m_1),(3,iP b),(4,.fno true 49 [.vptr [hC cv1] 0]),(18,iP (À ((IntKind.u64.wrap (À (a_+b))).fdiv (2 ^ min (1:Int).toNat IntKind.u64.bits)))),(19,iP (À ((À ((IntKind.u64.wrap (À (a_+b))).fdiv (2 ^ min (1:Int).toNat IntKind.u64.bits)))+m_1))),(20,iP start),(21,iP r_)],[DQ (data.map Ak.vals) m_]⟩) ?_ fun y4 e4 F=>?_
 rintro⟨start,r_⟩ h
 refine mE 1 [] h (fun start1=>⟨[(0,.asl 0 0 n_ cap_),(1,iP a_),(2,iP m_1),(3,iP b),(4,.fno true 49 [.vptr [hC cv1] 0]),(18,iP (À ((IntKind.u64.wrap (À (a_+b))).fdiv (2 ^ min (1:Int).toNat IntKind.u64.bits)))),(19,iP (À ((À ((IntKind.u64.wrap (À (a_+b))).fdiv (2 ^ min (1:Int).toNat IntKind.u64.bits)))+m_1))),(20,iP start1)],[DQ (data.map Ak.vals) m_]⟩) ?_ fun y5 e5 hJ5=>?_
 rintro start1 h
 refine mE 1 [] h (fun v185=>⟨[(0,.asl 0 0 n_ cap_),(1,iP a_),(2,iP m_1),(3,iP b),(4,.fno true 49 [.vptr [hC cv1] 0]),(18,iP (À ((IntKind.u64.wrap (À (a_+b))).fdiv (2 ^ min (1:Int).toNat IntKind.u64.bits)))),(20,iP start1),(24,iP (À ((À ((À ((IntKind.u64.wrap (À (a_+b))).fdiv (2 ^ min (1:Int).toNat IntKind.u64.bits)))+m_1))-start1))),(185,bP v185)],[DQ (data.map Ak.vals) m_]⟩) ?_ fun y6 e6 G=>?_
 rintro v185 h
 refine mE 0 [] h (fun data9=>⟨[(0,.asl 0 0 n_ cap_),(1,iP a_),(3,iP b),(4,.fno true 49 [.vptr [hC cv1] 0]),(18,iP (À ((IntKind.u64.wrap (À (a_+b))).fdiv (2 ^ min (1:Int).toNat IntKind.u64.bits)))),(20,iP start1),(24,iP (À ((À ((À ((IntKind.u64.wrap (À (a_+b))).fdiv (2 ^ min (1:Int).toNat IntKind.u64.bits)))+m_1))-start1)))],[DQ (data9.map Ak.vals) m_]⟩) ?_ fun y7 e7 H=>?_
 rintro data9 h
 refine mE 0 [] h (fun v199=>⟨[(0,.asl 0 0 n_ cap_),(1,iP a_),(3,iP b),(4,.fno true 49 [.vptr [hC cv1] 0]),(18,iP (À ((IntKind.u64.wrap (À (a_+b))).fdiv (2 ^ min (1:Int).toNat IntKind.u64.bits)))),(20,iP start1),(24,iP (À ((À ((À ((IntKind.u64.wrap (À (a_+b))).fdiv (2 ^ min (1:Int).toNat IntKind.u64.bits)))+m_1))-start1))),(199,bP v199)],[DQ (data9.map Ak.vals) m_]⟩) ?_ fun y8 e8 I=>?_
 rintro v199 h
 refine mE 0 [] h (fun data10=>⟨[(0,.asl 0 0 n_ cap_),(3,iP b),(4,.fno true 49 [.vptr [hC cv1] 0]),(18,iP (À ((IntKind.u64.wrap (À (a_+b))).fdiv (2 ^ min (1:Int).toNat IntKind.u64.bits)))),(24,iP (À ((À ((À ((IntKind.u64.wrap (À (a_+b))).fdiv (2 ^ min (1:Int).toNat IntKind.u64.bits)))+m_1))-start1)))],[DQ (data10.map Ak.vals) m_]⟩) ?_ fun y9 e9 J=>?_
 rintro data10 h
 refine mE 0 [] h (fun v213=>⟨[(0,.asl 0 0 n_ cap_),(3,iP b),(4,.fno true 49 [.vptr [hC cv1] 0]),(18,iP (À ((IntKind.u64.wrap (À (a_+b))).fdiv (2 ^ min (1:Int).toNat IntKind.u64.bits)))),(24,iP (À ((À ((À ((IntKind.u64.wrap (À (a_+b))).fdiv (2 ^ min (1:Int).toNat IntKind.u64.bits)))+m_1))-start1))),(213,bP v213)],[DQ (data10.map Ak.vals) m_]⟩) ?_ fun y10 e10 q=>?_
 rintro v213 h
 refine cD 0 [] h (fun hc6 h=>?_) fun hc6 h=>?_
 obtain⟨data11,a,h⟩:=Ab h
 cases h
 exact rt 1 [(5,fs (ih_slices_symMergeCmpFunc_120_49 _ hn _ _ _ _ _ _ cap_ m_ _ a))] P
 cases h
 exact rt 0 [] P
 rcases Aj e10 with⟨t,e10⟩|⟨t,e10⟩
 exact mJ 1 [(3,fo t)] (q _ (oj e10))
 exact mJ 1 [(3,fo t)] (q _ (oj e10))
 refine cD 0 [] e9 (fun hc8 e9=>?_) fun hc8 e9=>?_
 obtain⟨data12,c,e9⟩:=Ab e9
 exact mJ 1 [(5,fs (ih_slices_symMergeCmpFunc_120_49 _ hn _ _ _ _ _ _ cap_ m_ _ c))] (J _ (oj e9))
 exact mJ 0 [] (J _ (oj e9))
 rcases Aj e8 with⟨u,e8⟩|⟨u,e8⟩
 exact mJ 1 [(3,fo u)] (I _ (oj e8))
 exact mJ 1 [(3,fo u)] (I _ (oj e8))
 refine cD 0 [] e7 (fun K e7=>?_) fun K e7=>?_
 obtain⟨data13,d,e7⟩:=Ab e7
 exact mJ 1 [(5,fs (It _ _ _ _ _ _ _ cap_ m_ _ d))] (H _ (oj e7))
 exact mJ 0 [] (H _ (oj e7))
 rcases Aj e6 with⟨f,e6⟩|⟨f,e6⟩
 exact mJ 1 [(3,fo f)] (G _ (oj e6))
 exact mJ 1 [(3,fo f)] (G _ (oj e6))
 refine lR 1 [] (A:=(Int×Int)) (fun n (start2,r_1)=>Av n n_ a_ b m_1 data cv1 start2 r_1) (fun (start2,r_1)=>⟨[(0,.asl 0 0 n_ cap_),(1,iP a_),(2,iP m_1),(3,iP b),(4,.fno true 49 [.vptr [hC cv1] 0]),(18,iP (À ((IntKind.u64.wrap (À (a_+b))).fdiv (2 ^ min (1:Int).toNat IntKind.u64.bits)))),(19,iP (À ((À ((IntKind.u64.wrap (À (a_+b))).fdiv (2 ^ min (1:Int).toNat IntKind.u64.bits)))+m_1))),(20,iP start2),(21,iP r_1),(22,iP (À ((À ((À ((IntKind.u64.wrap (À (a_+b))).fdiv (2 ^ min (1:Int).toNat IntKind.u64.bits)))+m_1))-1)))],[DQ (data.map Ak.vals) m_]⟩) (start,r_) hn e5 (fun _=>rfl) ?_
 rintro n ⟨start2,r_1⟩ hn e5 L
 replace e5:=(Av.eq_2 ..).symm.trans e5
 refine cD 1 [] e5 (fun M e5=>?_) fun M e5=>?_
 obtain⟨_,hu8,e5⟩:=Ab e5
 obtain⟨x8,hx8,e5⟩:=Ab e5
 obtain⟨_,hu9,e5⟩:=Ab e5
 obtain⟨x9,hx9,e5⟩:=Ab e5
 obtain⟨s2,hs2,e5⟩:=Ab e5
 refine cD 3 [(12,MS 0 3 n_ (D7 hu8)),(0,WD Ak m_ hx8),(2,MS 0 3 n_ (D7 hu9)),(0,WD Ak m_ hx9),(0,fk (HR _ _ _ _ hs2))] e5 (fun N e5=>?_) fun N e5=>?_
 exact mJ 1 [] (L (_,_) e5)
 exact mJ 1 [] (L (_,_) e5)
 exact mJ 1 [] (hJ5 _ (oj e5))
 refine cD 0 [] e4 (fun O e4=>?_) fun O e4=>?_
 exact mJ 2 [] (F _ (oj e4))
 exact mJ 2 [] (F _ (oj e4))
theorem Ef:∀ n:Nat,(∀ m,m<=n->∀ (cv1:(List Aa)) (n_:Nat) (data:(List Ae)) (a_:Int) (m_1:Int) (b:Int) (cap_ m_:Nat) (r:(List Ae)),Ap m cv1 n_ data a_ m_1 b=some r->JW Tryz.prog 120 [.asl 0 0 n_ cap_,iP a_,iP m_1,iP b,.fno true 49 [.vptr [hC cv1] 0]] [DQ (data.map Ak.vals) m_] (.ret (.tup [])) [DQ (r.map Ak.vals) m_])
 |0=>(fun m hm cv1 n_ data a_ m_1 b cap_ m_ r h=>by
  obtain rfl:m=0:=by omega
  exact absurd h (by simp [Ap]))
 |n+1=>by
  have ih:=Ef n
  exact fun m hm cv1 n_ data a_ m_1 b cap_ m_ r h=>by
   cases m with
   |zero=>exact absurd h (by simp [Ap])
   |succ m=>exact Hl n (ih) m (by omega) cv1 n_ data a_ m_1 b cap_ m_ _ h
theorem EE (n:Nat)(cv1:(List Aa))(n_:Nat)(data:(List Ae))(a_:Int)(m_1:Int)(b:Int)(cap_ m_:Nat)(r:(List Ae))(h:Ap n cv1 n_ data a_ m_1 b=some r):JW Tryz.prog 120 [.asl 0 0 n_ cap_,iP a_,iP m_1,iP b,.fno true 49 [.vptr [hC cv1] 0]] [DQ (data.map Ak.vals) m_] (.ret (.tup [])) [DQ (r.map Ak.vals) m_] :=
 (Ef n) n (ä _) cv1 n_ data a_ m_1 b cap_ m_ r h
theorem I9 (n:Nat)(cv1:(List Aa))(n_:Nat)(data:(List Ae))(n_1:Int)(cap_ m_:Nat)(r:(List Ae))(h:B8 n cv1 n_ data n_1=some r):JW Tryz.prog 73 [.asl 0 0 n_ cap_,iP n_1,.fno true 49 [.vptr [hC cv1] 0]] [DQ (data.map Ak.vals) m_] (.ret (.tup [])) [DQ (r.map Ak.vals) m_]:=by
 unfold B8 at h
 refine vS ⟨[0,1,2,6,7,8,9,13,30,35,54],[]⟩ Tryz.func73 follows fun Q p=>?_
 refine mE 2 [] h (fun (a_,b,data1)=>⟨[(0,.asl 0 0 n_ cap_),(1,iP n_1),(2,.fno true 49 [.vptr [hC cv1] 0]),(6,iP 20),(7,iP a_),(8,iP b)],[DQ (data1.map Ak.vals) m_]⟩) ?_ fun y e hJ=>?_
 rintro⟨a_,b,data1⟩ h
 obtain⟨data2,c,h⟩:=Ab h
 refine mE 1 [(4,fs (DF _ _ _ _ _ _ cap_ m_ _ c))] h (fun data3=>⟨[],[DQ (data3.map Ak.vals) m_]⟩) ?_ fun y1 e1 g=>?_
 rintro data3 h
 cases h
 exact rt 0 [] p
 refine lF 1 [] (A:=(Int×Int×Int×(List Ae))) (fun n (blockSize,a_1,b1,data4)=>A4 n n_1 cv1 n_ blockSize a_1 b1 data4) (fun (blockSize,a_1,b1,data4)=>⟨[(0,.asl 0 0 n_ cap_),(1,iP n_1),(2,.fno true 49 [.vptr [hC cv1] 0]),(6,iP blockSize),(7,iP a_1),(8,iP b1)],[DQ (data4.map Ak.vals) m_]⟩) (20,a_,b,data2) e1 (fun _=>rfl) ?_
 rintro n ⟨blockSize,a_1,b1,data4⟩ e1 ih
 replace e1:=(A4.eq_2 ..).symm.trans e1
 refine cD 1 [] e1 (fun i e1=>?_) fun i e1=>?_
 refine mE 2 [] e1 (fun (a_2,b2,data5)=>⟨[(0,.asl 0 0 n_ cap_),(1,iP n_1),(2,.fno true 49 [.vptr [hC cv1] 0]),(6,iP blockSize),(7,iP a_2),(8,iP b2)],[DQ (data5.map Ak.vals) m_]⟩) ?_ fun y2 e2 j=>?_
 rintro⟨a_2,b2,data5⟩ e1
 refine cD 2 [] e1 (fun q e1=>?_) fun q e1=>?_
 obtain⟨data6,d,e1⟩:=Ab e1
 exact mJ 2 [(5,fs (EE _ _ _ _ _ _ _ cap_ m_ _ d))] (ih (_,_,_,_) e1)
 exact mJ 1 [] (ih (_,_,_,_) e1)
 refine lF 1 [] (A:=(Int×Int×(List Ae))) (fun n (a_3,b3,data7)=>A9 n n_1 cv1 n_ blockSize a_3 b3 data7) (fun (a_3,b3,data7)=>⟨[(0,.asl 0 0 n_ cap_),(1,iP n_1),(2,.fno true 49 [.vptr [hC cv1] 0]),(6,iP blockSize),(7,iP a_3),(8,iP b3)],[DQ (data7.map Ak.vals) m_]⟩) (0,(À (2*blockSize)),data4) e2 (fun _=>rfl) ?_
 rintro n ⟨a_3,b3,data7⟩ e2 k
 replace e2:=(A9.eq_2 ..).symm.trans e2
 refine cD 1 [] e2 (fun l e2=>?_) fun l e2=>?_
 obtain⟨data8,f,e2⟩:=Ab e2
 exact mJ 4 [(7,fs (EE _ _ _ _ _ _ _ cap_ m_ _ f))] (k (_,_,_) e2)
 exact mJ 1 [] (j _ (oj e2))
 exact mJ 1 [] (g _ (oj e1))
 refine lF 1 [] (A:=(Int×Int×(List Ae))) (fun n (a_4,b4,data9)=>A8 n n_1 cv1 n_ a_4 b4 data9) (fun (a_4,b4,data9)=>⟨[(0,.asl 0 0 n_ cap_),(1,iP n_1),(2,.fno true 49 [.vptr [hC cv1] 0]),(6,iP 20),(7,iP a_4),(8,iP b4)],[DQ (data9.map Ak.vals) m_]⟩) (0,20,data) e (fun _=>rfl) ?_
 rintro n ⟨a_4,b4,data9⟩ e m
 replace e:=(A8.eq_2 ..).symm.trans e
 refine cD 1 [] e (fun o e=>?_) fun o e=>?_
 obtain⟨data10,a,e⟩:=Ab e
 exact mJ 4 [(4,fs (DF _ _ _ _ _ _ cap_ m_ _ a))] (m (_,_,_) e)
 exact mJ 1 [] (hJ _ (oj e))
theorem Iu (n:Nat)(cv1:(List Aa))(n_:Nat)(x:(List Ae))(cap_ m_:Nat)(r:(List Ae))(h:Ca n cv1 n_ x=some r):JW Tryz.prog 48 [.asl 0 0 n_ cap_,.fno true 49 [.vptr [hC cv1] 0]] [DQ (x.map Ak.vals) m_] (.ret (.tup [])) [DQ (r.map Ak.vals) m_]:=by
 unfold Ca at h
 refine vS ⟨[0,1],[]⟩ Tryz.func48 follows fun Q b=>?_
 obtain⟨x1,a,h⟩:=Ab h
 cases h
 exact rt 1 [(4,fs (I9 _ _ _ _ _ cap_ m_ _ a))] b
end Go.Proofs.YtehfpameijkafaaGreatDoor
namespace Go.Proofs.YtehfpameijkafaaGreatDoor
open Go Go.RowKit Go.Proofs Go.Vl Go.Sp
def Xx:Nat->Int->Option Unit
 |0,_=>none
 |n+1,i=>bif decide (i<0) then Xx n i else some ()
theorem Ahb (cl:(List Aa)):BZ Tryz.prog 119 [.sl [] .shared,iP 0,iP 0,.fno true 49 [.vptr [hP cl B0] 0]] (.tup []):=by
 refine vP ⟨[0,1,2,3,8,9,14,34],[(4,[9999,0,0,1,2,3,4,5,6,7,8,9,10,11,12,13,14,15,16]),(6,[9999,0,0,1,2,3,4,5,6,7,8,9,10,11,12,13,14,15,16,17])]⟩ Tryz.func119 follows fun Q c=>?_
 have h:(Xx 1 1).bind (fun _:Unit=>some ())=some ():=rfl
 refine mE 1 [] h (fun _=>⟨[],[]⟩) ?_ fun y e hJ=>?_
 rintro⟨⟩ _
 exact rt 0 [] c
 refine lF 1 [] (A:=Int) (fun n i=>bif decide (i=1) then Xx n i else none) (fun i=>⟨[(0,.sl [] .shared),(1,iP 0),(2,iP 0),(3,.fno true 49 [.vptr [hP cl B0] 0]),(8,iP i)],[]⟩) 1 (m:=1) e (fun _=>by simp [Xx]) ?_
 rintro n i e ih
 rcases Aj e with⟨b,e⟩|⟨b,e⟩
 have d:i=1:=by simpa using b
 refine cD 1 [] e (fun a e=>?_) fun a e=>?_
 exact absurd (þ a) (by omega)
 exact mJ 1 [] (hJ _ (oj e))
 cases e
def Ac0:Nat->Int->Option Unit
 |0,_=>none
 |n+1,i=>bif decide (i<=0) then Ac0 n i else some ()
theorem Aiw (cl:(List Aa)):BZ Tryz.prog 73 [.sl [] .shared,iP 0,.fno true 49 [.vptr [hP cl B0] 0]] (.tup []):=by
 refine vP ⟨[0,1,2,6,7,8,9,13,30,35,54],[]⟩ Tryz.func73 follows fun Q c=>?_
 have h:(Ac0 1 20).bind (fun _:Unit=>(Xx 1 20).bind (fun _:Unit=>some ()))=some ():=rfl
 refine mE 2 [] h (fun _=>⟨[(0,.sl [] .shared),(1,iP 0),(2,.fno true 49 [.vptr [hP cl B0] 0]),(6,iP 20),(7,iP 0),(8,iP 20)],[]⟩) ?_ fun y e hJ=>?_
 rintro⟨⟩ h
 refine mE 1 [(4,fk (Ahb cl))] h (fun _=>⟨[],[]⟩) ?_ fun y e hJ=>?_
 rintro⟨⟩ _
 exact rt 0 [] c
 refine lF 1 [] (A:=Int) (fun n i=>bif decide (i=20) then Xx n i else none) (fun i=>⟨[(0,.sl [] .shared),(1,iP 0),(2,.fno true 49 [.vptr [hP cl B0] 0]),(6,iP i),(7,iP 0),(8,iP 20)],[]⟩) 20 (m:=1) e (fun _=>by simp [Xx]) ?_
 rintro n i e ih
 rcases Aj e with⟨b,e⟩|⟨b,e⟩
 have d:i=20:=by simpa using b
 refine cD 1 [] e (fun a e=>?_) fun a e=>?_
 exact absurd (þ a) (by omega)
 exact mJ 1 [] (hJ _ (oj e))
 cases e
 refine lF 1 [] (A:=Int) (fun n i=>bif decide (i=20) then Ac0 n i else none) (fun i=>⟨[(0,.sl [] .shared),(1,iP 0),(2,.fno true 49 [.vptr [hP cl B0] 0]),(6,iP 20),(7,iP 0),(8,iP i)],[]⟩) 20 (m:=1) e (fun _=>by simp [Ac0]) ?_
 rintro n i e ih
 rcases Aj e with⟨b,e⟩|⟨b,e⟩
 obtain rfl:i=20:=by simpa using b
 refine cD 1 [] e (fun a e=>?_) fun a e=>?_
 exact absurd (þ a) (by omega)
 exact mJ 1 [] (hJ _ (oj e))
 cases e
theorem Ae4 (cl:(List Aa)):BZ Tryz.prog 48 [.sl [] .shared,.fno true 49 [.vptr [hP cl B0] 0]] (.tup []):=by
 refine vP ⟨[0,1],[]⟩ Tryz.func48 follows fun Q a=>?_
 exact rt 1 [(4,fk (Aiw cl))] a
theorem Acq:BZ Tryz.prog 52 [.sl [] .shared] (.tup []):=by
 intro σ w G vs hs b j m k
 have a:vs.size=1:=b
 have e1:vs = #[vs.getD 0 Go.undef]:=by
  apply Array.ext
  . simpa using a
  . intro i l g
    have:i=0:=by simp at g;exact g
    subst this
    simp [Array.getD,l]
 have c:V w G.U G.φ (.sl [] .shared) (vs.getD 0 Go.undef):=j 0 (by simp)
 have d:∃ p cap,vs.getD 0 Go.undef=.slice p 0 cap:=by
  revert c
  generalize vs.getD 0 Go.undef=z
  intro c
  cases c<;>exact⟨_,_,rfl⟩
 obtain⟨p,cap,d⟩:=d
 rw [e1,d]
 refine (Tryz.slices_Sort_int_none p cap w).mono ?_
 rintro e w' ⟨rfl,rfl⟩
 exact⟨_,_,G,⟨rfl,rfl⟩,⟨_,rfl,.tup _ _ _ rfl (fun i f=>by simp at f),fun i xs f=>by simp at f⟩,hs,Ext.refl _ _⟩
end Go.Proofs.YtehfpameijkafaaGreatDoor
namespace Go.Proofs.YtehfpameijkafaaGreatDoor
open Go.RowKit Go.Q Go.Vl Go.Sp
set_option maxRecDepth 100000
set_option linter.unusedSimpArgs false
set_option maxHeartbeats 4000000
set_option linter.unusedVariables false
theorem Adh:Cv [(7,[9996,8])] Tryz.f60.ntmps (Tryz.f60.body.getD .skip)=true:=by kernel_rfl
theorem Aha (Q:Cs->List (List PV)->Prop)(hQ:∀ os:List Nat,Ord os->∀ l,l=Fq++os.flatMap Hd->∀ r,Aaq 20 l=some r->∀ y,shareP y=hO r->Q (.ret y) []):VC Tryz.prog 60 [] [] Q:=by
 obtain⟨n,j⟩:∃ n,n=20:=⟨20,rfl⟩
 have h:Aff n=some Fq:=by rw [j];exact Adg
 unfold Aff at h
 refine VC.intro ⟨[0,1,2,3,4,5,7,9,35,36,37,38,52,54,58,59,60,61,73,84,85,86,87,103],[(7,[9996,8])]⟩ Tryz.func60 rfl follows Adh (by rw [Tryz.ntmps60];exact Ö rfl) ?_
 refine Sc ?_
 repeat first|apply z1|apply z2|apply z3|apply z4
 refine wr [0] 0 (EC 1 []) ⟨[(0,.sl [] .own)],[]⟩ True.intro (by kernel_rfl) ?_
 repeat first|apply z1|apply z2|apply z3|apply z4
 obtain⟨l,H,h⟩:=Ab h
 have fb:([[iP 1]]:List (List PV))=l.map BH:=by rw [<- Ag H];simp only [ß,õ,Bu]<;>rfl
 obtain⟨l1,o,h⟩:=Ab h
 have fb1:([[iP 1],[iP 1]]:List (List PV))=l1.map BH:=by rw [<- Ag o];simp only [ß,õ,Bu]<;>rfl
 obtain⟨l2,S,h⟩:=Ab h
 have fb2:([[iP 1],[iP 1]]:List (List PV))=l2.map BH:=by rw [<- Ag S];simp only [ß,õ,Bu]<;>rfl
 obtain⟨l3,T,h⟩:=Ab h
 have fb3:([[iP 2],[iP 1]]:List (List PV))=l3.map BH:=by rw [<- Ag T];simp only [ß,õ,Bu]<;>rfl
 obtain⟨l4,p,h⟩:=Ab h
 have fb4:([[iP 1],[iP 1]]:List (List PV))=l4.map BH:=by rw [<- Ag p];simp only [ß,õ,Bu]<;>rfl
 obtain⟨l5,q,h⟩:=Ab h
 have fb5:([[iP 2],[iP 1]]:List (List PV))=l5.map BH:=by rw [<- Ag q];simp only [ß,õ,Bu]<;>rfl
 obtain⟨l6,s,h⟩:=Ab h
 have fb6:([[iP 2],[iP 2]]:List (List PV))=l6.map BH:=by rw [<- Ag s];simp only [ß,õ,Bu]<;>rfl
 obtain⟨l7,B,h⟩:=Ab h
 have fb7:([[iP 3]]:List (List PV))=l7.map BH:=by rw [<- Ag B];simp only [ß,õ,Bu]<;>rfl
 obtain⟨l8,C,h⟩:=Ab h
 have fb8:([[iP 3],[iP 3]]:List (List PV))=l8.map BH:=by rw [<- Ag C];simp only [ß,õ,Bu]<;>rfl
 obtain⟨l9,D,h⟩:=Ab h
 have fb9:([[iP 3],[iP 3]]:List (List PV))=l9.map BH:=by rw [<- Ag D];simp only [ß,õ,Bu]<;>rfl
 obtain⟨l10,t,h⟩:=Ab h
 have fb10:([[iP 1]]:List (List PV))=l10.map BH:=by rw [<- Ag t];simp only [ß,õ,Bu]<;>rfl
 obtain⟨l11,I,h⟩:=Ab h
 have fb11:([[iP 1]]:List (List PV))=l11.map BH:=by rw [<- Ag I];simp only [ß,õ,Bu]<;>rfl
 obtain⟨l12,J,h⟩:=Ab h
 have fb12:([[iP 6,tP ⟨#[]⟩,hI l,iP 1,.fno true 82 []],[iP 7,tP ⟨#[]⟩,hI l1,iP 1,.fno true 83 []],[iP 10,tP ⟨#[]⟩,hI l2,iP 1,.fno true 85 []],[iP 10,tP ⟨#[]⟩,hI l3,iP 2,.fno true 87 []],[iP 11,tP ⟨#[]⟩,hI l4,iP 1,.fno true 89 []],[iP 11,tP ⟨#[]⟩,hI l5,iP 2,.fno true 90 []],[iP 11,tP ⟨#[]⟩,hI l6,iP 1,.fno true 91 []],[iP 5,tP ⟨#[]⟩,hI l7,iP 3,.fno true 92 []],[iP 18,tP ⟨#[]⟩,hI l8,iP 3,.fno true 93 []],[iP 19,tP ⟨#[]⟩,hI l9,iP 3,.fno true 94 []],[iP 4,tP ⟨#[100,97,121]⟩,hI l10,iP 2,.fno true 95 []],[iP 4,tP ⟨#[112,101,114,115,111,110]⟩,hI l11,iP 4,.fno true 97 []]]:List (List PV))=l12.map AN:=by rw [<- Ag J];simp only [ß,õ,BS]<;>rfl
 refine wr [0,1] 0 (.val (oI l)::(EC 1 (.val (oI l1)::(EC 1 (.val (oI l2)::(EC 1 (.val (oI l3)::(EC 1 (.val (oI l4)::(EC 1 (.val (oI l5)::(EC 1 (.val (oI l6)::(EC 1 (.val (oI l7)::(EC 1 (.val (oI l8)::(EC 1 (.val (oI l9)::(EC 1 (.val (oI l10)::(EC 1 (.val (oI l11)::(EC 1 (.val (oO l12)::(EC 1 [])))))))))))))))))))))))))) ⟨[(0,.sl [] .own),(1,oO l12)],[]⟩ (And.intro (D5 rfl fb) (And.intro (D5 rfl fb1) (And.intro (D5 rfl fb2) (And.intro (D5 rfl fb3) (And.intro (D5 rfl fb4) (And.intro (D5 rfl fb5) (And.intro (D5 rfl fb6) (And.intro (D5 rfl fb7) (And.intro (D5 rfl fb8) (And.intro (D5 rfl fb9) (And.intro (D5 rfl fb10) (And.intro (D5 rfl fb11) (And.intro (D5 rfl fb12) True.intro))))))))))))) (by kernel_rfl) ?_
 repeat first|apply z1|apply z2|apply z3|apply z4
 obtain⟨l13,K,h⟩:=Ab h
 have fb13:([[tP ⟨#[98,111,114,110]⟩],[tP ⟨#[100,105,101,100]⟩],[tP ⟨#[97,115,107,101,100]⟩],[tP ⟨#[104,101,108,100]⟩],[tP ⟨#[108,105,102,116,101,100]⟩]]:List (List PV))=l13.map Gc:=by rw [<- Ag K];simp only [ß,õ,JP]<;>rfl
 refine wr [0,1,35,36,37] 0 (.val (oS l13)::(.val (iP (l13.length:Int))::(EC 1 []))) ⟨[(0,.sl [] .own),(1,oO l12),(35,oS l13),(36,iP (l13.length:Int)),(37,iP 0)],[]⟩ (And.intro (D5 rfl fb13) (And.intro (Zk l13 Gc) True.intro)) (by kernel_rfl) ?_
 repeat first|apply z1|apply z2|apply z3|apply z4
 obtain⟨y,e,h⟩:=Ab h
 refine OC (A:=((List Ac)×Int×Bool)) (fun v=>v=y) (fun y=>match y with|(l14,v37,v38)=>⟨[(0,.sl [] .own),(1,oO l14),(35,oS l13),(36,iP (l13.length:Int)),(37,iP v37),(38,bP v38)],[]⟩) ?_ ?_
 . rintro⟨l14,v37,v38⟩ rfl
   show WS _ _ _ _ _ ⟨[(0,.sl [] .own),(1,oO l14),(35,oS l13),(36,iP (l13.length:Int)),(37,iP v37),(38,bP v38)],[]⟩
   repeat first|apply z1|apply z2|apply z3|apply z4
   have X:=Ag h
   subst X
   refine Ag7 (N:=0) (m:=8) [1,51] 1 (EC 8 []) ⟨[(1,oO Fq),(51,.mref 0)],[[.mp Dd]]⟩ ⟨[(1,oO Fq),(51,.vmp Dd)],[]⟩ True.intro (by kernel_rfl) (Wk.frz (σ0:=[]) (cs:=[.mp Dd]) (fp:=fun _=>.undef) (fm:=.vmp Dd) rfl (by exact Ö rfl) (.inr ⟨Dd,rfl,rfl,rfl⟩) (by kernel_rfl) (by kernel_rfl)) (fun K' w=>?_)
   refine wrT [1,52] 1 (EC 1 []) ⟨[(1,oO Fq),(52,.ptr 0 0)],[[.mit Dd []]]⟩ True.intro (by kernel_rfl) ?_ w
   clear w K'
   repeat first|apply z1|apply z2|apply z3|apply z4
   refine HB ?_
   refine UN [1,52] 1 (fun a:List Nat×(List Ac)=>a.1.Nodup/\(∀ i∈a.1,i<6)/\a.1.length<=6/\a.2=Fq++a.1.flatMap Hd) (fun a=>6-a.1.length) (fun a=>⟨[(1,oO a.2),(52,.ptr 0 0)],[[.mit Dd a.1]]⟩) ([],Fq) (Ö rfl) rfl ⟨by simp,by simp,by simp,by simp⟩ ?_
   rintro⟨seen,l⟩ ⟨E,F,z,H⟩
   show WS _ _ _ _ _ ⟨[(1,oO l),(52,.ptr 0 0)],[[.mit Dd seen]]⟩
   repeat first|apply z1|apply z2|apply z3|apply z4
   refine IQ (by kernel_rfl) fun K' w hP=>?_
   refine X6 (x:=.tmp 52) (d:=53) (k:=0) (kvs:=Dd) (seen:=seen) rfl rfl rfl rfl (fun L=>?_) (fun i U W=>?_)
   . refine wrT [1,54] 1 (EC 1 []) ⟨[(1,oO l),(54,bP false)],[[.mit Dd seen]]⟩ True.intro (by kernel_rfl) ?_ w
     clear w hP K'
     repeat first|apply z1|apply z2|apply z3|apply z4
     refine Fu rfl ?_
     repeat first|apply z1|apply z2|apply z3|apply z4
     try refine z5 rfl ?_
     repeat first|apply z1|apply z2|apply z3|apply z4
     refine Li [1] 0 (by kernel_rfl) (Ö rfl) (st0:=⟨[(1,oO l)],[]⟩) (by kernel_rfl) ?_
     have hQ:=hQ seen (Afd E F L) l H
     obtain⟨r,h⟩:=Adc l (Xq z H)
     have hQ:=hQ r h
     rw [<- j] at h
     unfold Aaq at h
     repeat first|apply z1|apply z2|apply z3|apply z4
     obtain⟨l1,o,h⟩:=Ab h
     have fb:([[iP 1],[iP 2],[iP 3],[iP 4]]:List (List PV))=l1.map BH:=by rw [<- Ag o];simp only [ß,õ,Bu]<;>rfl
     refine wr [1,84,85,86] 0 (.val (oI l1)::(.val (iP (l1.length:Int))::(EC 1 []))) ⟨[(1,oO l),(84,oI l1),(85,iP (l1.length:Int)),(86,iP 0)],[]⟩ (And.intro (D5 rfl fb) (And.intro (Zk l1 BH) True.intro)) (by kernel_rfl) ?_
     repeat first|apply z1|apply z2|apply z3|apply z4
     obtain⟨y,e,h⟩:=Ab h
     refine OC (A:=(List Ac)) (fun v=>v=y) (fun l2=>⟨[(1,oO l2)],[]⟩) ?_ ?_
     . rintro l2 rfl
       show WS _ _ _ _ _ ⟨[(1,oO l2)],[]⟩
       repeat first|apply z1|apply z2|apply z3|apply z4
       refine wr [0] 0 (EC 2 []) ⟨[(0,hO l2)],[]⟩ True.intro (by kernel_rfl) ?_
       repeat first|apply z1|apply z2|apply z3|apply z4
       obtain rfl:=Ag h
       exact Ju (Ij hQ (by kernel_rfl)).1
     . intro hJ
       repeat first|apply z1|apply z2|apply z3|apply z4
       refine HB ?_
       repeat first|apply z1|apply z2|apply z3|apply z4
       refine UN [1,84,85,86] 0 (fun a:Nat×((List Ac)×Int)=>Bc a.1 l1 a.2.1 a.2.2=some y) (fun a=>a.1) (fun a:Nat×((List Ac)×Int)=>match a with|(_,(l3,v86))=>⟨[(1,oO l3),(84,oI l1),(85,iP (l1.length:Int)),(86,iP v86)],[]⟩) (n,(l,0)) (Ö rfl) rfl e ?_
       clear e
       rintro⟨n,l3,v86⟩ e
       show WS _ _ _ _ _ ⟨[(1,oO l3),(84,oI l1),(85,iP (l1.length:Int)),(86,iP v86)],[]⟩
       cases n with
       |zero=>exact absurd e (by simp [Bc])
       |succ n =>
        replace e:=(Bc.eq_2 (n:=n) l1 l3 v86).symm.trans e
        repeat first|apply z1|apply z2|apply z3|apply z4
        refine wr [1,84,85,86,87] 0 (EC 1 []) ⟨[(1,oO l3),(84,oI l1),(85,iP (l1.length:Int)),(86,iP v86),(87,bP (decide (v86<(l1.length:Int))))],[]⟩ True.intro (by kernel_rfl) ?_
        repeat first|apply z1|apply z2|apply z3|apply z4
        rcases Aj e with⟨c,e⟩|⟨c,e⟩
        . refine GQ (test c) ?_
          repeat first|apply z1|apply z2|apply z3|apply z4
          refine HB ?_
          repeat first|apply z1|apply z2|apply z3|apply z4
          obtain⟨x,M,e⟩:=Ab e
          refine wr [1,9,84,85,86] 0 (.val (.vptr [iP x] 0)::(EC 2 [])) ⟨[(1,oO l3),(9,iP x),(84,oI l1),(85,iP (l1.length:Int)),(86,iP v86)],[]⟩ (And.intro (oi M LV (Bu x)) True.intro) (by kernel_rfl) ?_
          repeat first|apply z1|apply z2|apply z3|apply z4
          obtain⟨l4,p,e⟩:=Ab e
          have fb1:([[iP 3],[iP x],[iP x]]:List (List PV))=l4.map BH:=by rw [<- Ag p];simp only [ß,õ,Bu]<;>rfl
          obtain⟨l5,q,e⟩:=Ab e
          have fb2:([[iP 20,tP ⟨#[]⟩,hI l4,iP x,.fno true 108 []]]:List (List PV))=l5.map AN:=by rw [<- Ag q];simp only [ß,õ,BS]<;>rfl
          obtain⟨l6,s,e⟩:=Ab e
          refine wr [1,9,84,85,86] 0 (EC 3 (.val (oI l4)::(EC 2 (.val (oO l5)::(.val (oO l6)::(EC 1 [])))))) ⟨[(1,oO l6),(9,iP x),(84,oI l1),(85,iP (l1.length:Int)),(86,iP v86)],[]⟩ (And.intro (D5 rfl fb1) (And.intro (D5 rfl fb2) (And.intro (Aaw s Co) True.intro))) (by kernel_rfl) ?_
          repeat first|apply z1|apply z2|apply z3|apply z4
          obtain⟨y1,e1,e⟩:=Ab e
          refine OC (A:=Bool) (fun v=>v=y1) (fun v103=>⟨[(1,oO l6),(9,iP x),(84,oI l1),(85,iP (l1.length:Int)),(86,iP v86),(103,bP v103)],[]⟩) ?_ ?_
          . rintro v103 rfl
            show WS _ _ _ _ _ ⟨[(1,oO l6),(9,iP x),(84,oI l1),(85,iP (l1.length:Int)),(86,iP v86),(103,bP v103)],[]⟩
            repeat first|apply z1|apply z2|apply z3|apply z4
            rcases Aj e with⟨u,e⟩|⟨u,e⟩
            . refine GQ (test u) ?_
              repeat first|apply z1|apply z2|apply z3|apply z4
              obtain⟨l7,B,e⟩:=Ab e
              have fb3:([[iP x],[iP x]]:List (List PV))=l7.map BH:=by rw [<- Ag B];simp only [ß,õ,Bu]<;>rfl
              obtain⟨l8,C,e⟩:=Ab e
              have fb4:([[iP x],[iP x]]:List (List PV))=l8.map BH:=by rw [<- Ag C];simp only [ß,õ,Bu]<;>rfl
              obtain⟨l9,D,e⟩:=Ab e
              have fb5:([[iP 4,tP ⟨#[109,105,110]⟩,hI l7,iP x,.fno true 109 []],[iP 4,tP ⟨#[109,97,120]⟩,hI l8,iP x,.fno true 110 []]]:List (List PV))=l9.map AN:=by rw [<- Ag D];simp only [ß,õ,BS]<;>rfl
              obtain⟨l10,t,e⟩:=Ab e
              refine wr [1,84,85,86] 0 (EC 3 (.val (oI l7)::(EC 4 (.val (oI l8)::(EC 2 (.val (oO l9)::(.val (oO l10)::(EC 1 [])))))))) ⟨[(1,oO l10),(84,oI l1),(85,iP (l1.length:Int)),(86,iP v86)],[]⟩ (And.intro (D5 rfl fb3) (And.intro (D5 rfl fb4) (And.intro (D5 rfl fb5) (And.intro (Aaw t Co) True.intro)))) (by kernel_rfl) ?_
              repeat first|apply z1|apply z2|apply z3|apply z4
              refine wr [1,84,85,86] 0 (EC 2 []) ⟨[(1,oO l10),(84,oI l1),(85,iP (l1.length:Int)),(86,iP (À (v86+1)))],[]⟩ True.intro (by kernel_rfl) ?_
              repeat first|exact Ks (n,(l10,(À (v86+1)))) rfl e (ĭ _)|apply z3|apply z2|apply z1|apply z4
            . refine Fu (test u) ?_
              repeat first|apply z1|apply z2|apply z3|apply z4
              refine wr [1,84,85,86] 0 (EC 2 []) ⟨[(1,oO l6),(84,oI l1),(85,iP (l1.length:Int)),(86,iP (À (v86+1)))],[]⟩ True.intro (by kernel_rfl) ?_
              repeat first|exact Ks (n,(l6,(À (v86+1)))) rfl e (ĭ _)|apply z3|apply z2|apply z1|apply z4
          . intro g
            rcases Aj e1 with⟨b,e1⟩|⟨b,e1⟩
            . exact wr [1,9,84,85,86,103] 0 (EC 2 (.val (.lit (.bool true))::(EC 3 []))) ⟨[(1,oO l6),(9,iP x),(84,oI l1),(85,iP (l1.length:Int)),(86,iP v86),(103,bP true)],[]⟩ (And.intro (P6 b) True.intro) (by kernel_rfl) (g true (Ag e1))
            . exact wr [1,9,84,85,86,103] 0 (EC 2 (.val (.lit (.bool false))::(EC 3 []))) ⟨[(1,oO l6),(9,iP x),(84,oI l1),(85,iP (l1.length:Int)),(86,iP v86),(103,bP (x == 2))],[]⟩ (And.intro (P6 b) True.intro) (by kernel_rfl) (g (x == 2) (Ag e1))
        . refine Fu (test c) ?_
          repeat first|apply z1|apply z2|apply z3|apply z4
          try refine z5 rfl ?_
          repeat first|exact Li [1] 0 rfl (Ö rfl) rfl (hJ l3 (Ag e))|apply z3|apply z2|apply z1|apply z4
   . obtain⟨op,f,Y,V⟩:=Ai9 i U
     refine wrT [1,52,54] 1 (EC 1 []) ⟨[(1,oO l),(52,.ptr 0 0),(54,bP true)],[[.mit Dd (seen++[i])]]⟩ True.intro (by kernel_rfl) ?_ w
     clear w hP K'
     repeat first|apply z1|apply z2|apply z3|apply z4
     refine GQ rfl ?_
     repeat first|apply z1|apply z2|apply z3|apply z4
     refine HB ?_
     repeat first|apply z1|apply z2|apply z3|apply z4
     refine IQ (by kernel_rfl) fun K' w hP=>?_
     refine Wi (x:=.tmp 52) (d:=55) (k:=0) (i:=i) (kvs:=Dd) (seen:=seen) rfl rfl rfl rfl Y ?_
     refine wrT [1,4,5,52] 2 (EC 5 []) ⟨[(1,oO l),(4,iP op),(5,.ptr 1 0),(52,.ptr 0 0)],[[.mit Dd (seen++[i])],[.fno true f []]]⟩ True.intro (by kernel_rfl) ?_ w
     clear w hP K'
     refine Pq [[.mit Dd (seen++[i])]] [.fno true f []] ⟨[(1,oO l),(4,iP op),(5,.vptr [.fno true f []] 0),(52,.ptr 0 0)],[[.mit Dd (seen++[i])]]⟩ (by kernel_rfl) rfl (Ö rfl) (by kernel_rfl) (by kernel_rfl) (by kernel_rfl) (by kernel_rfl) ?_
     obtain⟨r,hB,h⟩:∃ r,r=l++Jq op f/\Adf n l op f=some r:=⟨_,rfl,by rw [j];exact Ade l op f (Xq z H)⟩
     unfold Adf at h
     repeat first|apply z1|apply z2|apply z3|apply z4
     obtain⟨l1,o,h⟩:=Ab h
     have fb:([[iP 1],[iP 2],[iP 4]]:List (List PV))=l1.map BH:=by rw [<- Ag o];simp only [ß,õ,Bu]<;>rfl
     refine wr [1,4,5,52,58,59,60] 1 (.val (oI l1)::(.val (iP (l1.length:Int))::(EC 1 []))) ⟨[(1,oO l),(4,iP op),(5,.vptr [.fno true f []] 0),(52,.ptr 0 0),(58,oI l1),(59,iP (l1.length:Int)),(60,iP 0)],[[.mit Dd (seen++[i])]]⟩ (And.intro (D5 rfl fb) (And.intro (Zk l1 BH) True.intro)) (by kernel_rfl) ?_
     repeat first|apply z1|apply z2|apply z3|apply z4
     obtain⟨y,e,h⟩:=Ab h
     refine OC (A:=((List Ac)×Int×Bool)) (fun v=>v=y) (fun y=>match y with|(l2,v60,v61)=>⟨[(1,oO l2),(4,iP op),(5,.vptr [.fno true f []] 0),(52,.ptr 0 0),(58,oI l1),(59,iP (l1.length:Int)),(60,iP v60),(61,bP v61)],[[.mit Dd (seen++[i])]]⟩) ?_ ?_
     . rintro⟨l2,v60,v61⟩ rfl
       show WS _ _ _ _ _ ⟨[(1,oO l2),(4,iP op),(5,.vptr [.fno true f []] 0),(52,.ptr 0 0),(58,oI l1),(59,iP (l1.length:Int)),(60,iP v60),(61,bP v61)],[[.mit Dd (seen++[i])]]⟩
       repeat first|exact Ks (seen++[i],l2) rfl (Ai1 E F H W U V hB h) (Ai0 E F W U)|apply z3|apply z2|apply z1|apply z4
     . intro hJ
       repeat first|apply z1|apply z2|apply z3|apply z4
       refine HB ?_
       repeat first|apply z1|apply z2|apply z3|apply z4
       refine UN [1,4,5,52,58,59,60] 1 (fun a:Nat×((List Ac)×Int)=>AR a.1 l1 op f a.2.1 a.2.2=some y) (fun a=>a.1) (fun a:Nat×((List Ac)×Int)=>match a with|(_,(l3,v601))=>⟨[(1,oO l3),(4,iP op),(5,.vptr [.fno true f []] 0),(52,.ptr 0 0),(58,oI l1),(59,iP (l1.length:Int)),(60,iP v601)],[[.mit Dd (seen++[i])]]⟩) (n,(l,0)) (Ö rfl) rfl e ?_
       clear e
       rintro⟨n,l3,v601⟩ e
       show WS _ _ _ _ _ ⟨[(1,oO l3),(4,iP op),(5,.vptr [.fno true f []] 0),(52,.ptr 0 0),(58,oI l1),(59,iP (l1.length:Int)),(60,iP v601)],[[.mit Dd (seen++[i])]]⟩
       cases n with
       |zero=>exact absurd e (by simp [AR])
       |succ n =>
        replace e:=(AR.eq_2 (n:=n) l1 op f l3 v601).symm.trans e
        repeat first|apply z1|apply z2|apply z3|apply z4
        refine wr [1,4,5,52,58,59,60,61] 1 (EC 1 []) ⟨[(1,oO l3),(4,iP op),(5,.vptr [.fno true f []] 0),(52,.ptr 0 0),(58,oI l1),(59,iP (l1.length:Int)),(60,iP v601),(61,bP (decide (v601<(l1.length:Int))))],[[.mit Dd (seen++[i])]]⟩ True.intro (by kernel_rfl) ?_
        repeat first|apply z1|apply z2|apply z3|apply z4
        rcases Aj e with⟨G,e⟩|⟨G,e⟩
        . refine GQ (test G) ?_
          repeat first|apply z1|apply z2|apply z3|apply z4
          refine HB ?_
          repeat first|apply z1|apply z2|apply z3|apply z4
          obtain⟨x,M,e⟩:=Ab e
          refine wr [1,4,5,7,52,58,59,60,61] 1 (.val (.vptr [iP x] 0)::(EC 2 [])) ⟨[(1,oO l3),(4,iP op),(5,.vptr [.fno true f []] 0),(7,iP x),(52,.ptr 0 0),(58,oI l1),(59,iP (l1.length:Int)),(60,iP v601),(61,bP (decide (v601<(l1.length:Int))))],[[.mit Dd (seen++[i])]]⟩ (And.intro (oi M LV (Bu x)) True.intro) (by kernel_rfl) ?_
          repeat first|apply z1|apply z2|apply z3|apply z4
          obtain⟨y1,e1,e⟩:=Ab e
          refine OC (A:=Bool) (fun v=>v=y1) (fun v73=>⟨[(1,oO l3),(4,iP op),(5,.vptr [.fno true f []] 0),(7,iP x),(52,.ptr 0 0),(58,oI l1),(59,iP (l1.length:Int)),(60,iP v601),(61,bP (decide (v601<(l1.length:Int)))),(73,bP v73)],[[.mit Dd (seen++[i])]]⟩) ?_ ?_
          . rintro v73 rfl
            show WS _ _ _ _ _ ⟨[(1,oO l3),(4,iP op),(5,.vptr [.fno true f []] 0),(7,iP x),(52,.ptr 0 0),(58,oI l1),(59,iP (l1.length:Int)),(60,iP v601),(61,bP (decide (v601<(l1.length:Int)))),(73,bP v73)],[[.mit Dd (seen++[i])]]⟩
            repeat first|apply z1|apply z2|apply z3|apply z4
            rcases Aj e with⟨u,e⟩|⟨u,e⟩
            . refine GQ (test u) ?_
              repeat first|apply z1|apply z2|apply z3|apply z4
              obtain⟨l4,p,e⟩:=Ab e
              have fb1:([[iP x],[iP x]]:List (List PV))=l4.map BH:=by rw [<- Ag p];simp only [ß,õ,Bu]<;>rfl
              obtain⟨l5,q,e⟩:=Ab e
              have fb2:([[iP op,tP ⟨#[]⟩,hI l4,iP 3,.fno true 106 [.vptr [.fno true f []] 0]]]:List (List PV))=l5.map AN:=by rw [<- Ag q];simp only [ß,õ,BS]<;>rfl
              obtain⟨l6,s,e⟩:=Ab e
              refine wr [1,4,5,52,58,59,60,61] 1 (EC 4 (.val (oI l4)::(EC 2 (.val (oO l5)::(.val (oO l6)::(EC 1 [])))))) ⟨[(1,oO l6),(4,iP op),(5,.vptr [.fno true f []] 0),(52,.ptr 0 0),(58,oI l1),(59,iP (l1.length:Int)),(60,iP v601),(61,bP (decide (v601<(l1.length:Int))))],[[.mit Dd (seen++[i])]]⟩ (And.intro (D5 rfl fb1) (And.intro (D5 rfl fb2) (And.intro (Aaw s Co) True.intro))) (by kernel_rfl) ?_
              repeat first|apply z1|apply z2|apply z3|apply z4
              refine wr [1,4,5,52,58,59,60,61] 1 (EC 2 []) ⟨[(1,oO l6),(4,iP op),(5,.vptr [.fno true f []] 0),(52,.ptr 0 0),(58,oI l1),(59,iP (l1.length:Int)),(60,iP (À (v601+1))),(61,bP (decide (v601<(l1.length:Int))))],[[.mit Dd (seen++[i])]]⟩ True.intro (by kernel_rfl) ?_
              repeat first|exact Ks (n,(l6,(À (v601+1)))) rfl e (ĭ _)|apply z3|apply z2|apply z1|apply z4
            . refine Fu (test u) ?_
              repeat first|apply z1|apply z2|apply z3|apply z4
              refine wr [1,4,5,52,58,59,60,61] 1 (EC 2 []) ⟨[(1,oO l3),(4,iP op),(5,.vptr [.fno true f []] 0),(52,.ptr 0 0),(58,oI l1),(59,iP (l1.length:Int)),(60,iP (À (v601+1))),(61,bP (decide (v601<(l1.length:Int))))],[[.mit Dd (seen++[i])]]⟩ True.intro (by kernel_rfl) ?_
              repeat first|exact Ks (n,(l3,(À (v601+1)))) rfl e (ĭ _)|apply z3|apply z2|apply z1|apply z4
          . intro g
            rcases Aj e1 with⟨b,e1⟩|⟨b,e1⟩
            . exact wr [1,4,5,7,52,58,59,60,61,73] 1 (EC 2 (.val (.lit (.bool true))::(EC 7 []))) ⟨[(1,oO l3),(4,iP op),(5,.vptr [.fno true f []] 0),(7,iP x),(52,.ptr 0 0),(58,oI l1),(59,iP (l1.length:Int)),(60,iP v601),(61,bP (decide (v601<(l1.length:Int)))),(73,bP true)],[[.mit Dd (seen++[i])]]⟩ (And.intro (P6 b) True.intro) (by kernel_rfl) (g true (Ag e1))
            . rcases Aj e1 with⟨c,e1⟩|⟨c,e1⟩
              . exact wr [1,4,5,7,52,58,59,60,61,73] 1 (EC 2 (.val (.lit (.bool false))::(EC 3 (.val (.lit (.bool true))::(EC 3 []))))) ⟨[(1,oO l3),(4,iP op),(5,.vptr [.fno true f []] 0),(7,iP x),(52,.ptr 0 0),(58,oI l1),(59,iP (l1.length:Int)),(60,iP v601),(61,bP (decide (v601<(l1.length:Int)))),(73,bP true)],[[.mit Dd (seen++[i])]]⟩ (And.intro (P6 b) (And.intro (P6 c) True.intro)) (by kernel_rfl) (g true (Ag e1))
              . exact wr [1,4,5,7,52,58,59,60,61,73] 1 (EC 2 (.val (.lit (.bool false))::(EC 3 (.val (.lit (.bool false))::(EC 3 []))))) ⟨[(1,oO l3),(4,iP op),(5,.vptr [.fno true f []] 0),(7,iP x),(52,.ptr 0 0),(58,oI l1),(59,iP (l1.length:Int)),(60,iP v601),(61,bP (decide (v601<(l1.length:Int)))),(73,bP (op == 13))],[[.mit Dd (seen++[i])]]⟩ (And.intro (P6 b) (And.intro (P6 c) True.intro)) (by kernel_rfl) (g (op == 13) (Ag e1))
        . refine Fu (test G) ?_
          repeat first|apply z1|apply z2|apply z3|apply z4
          try refine z5 rfl ?_
          repeat first|exact Li [1,4,5,52,58,59,60,61] 1 rfl (Ö rfl) rfl (hJ (l3,v601,(decide (v601<(l1.length:Int)))) (Ag e))|apply z3|apply z2|apply z1|apply z4
 . intro hJ
   repeat first|apply z1|apply z2|apply z3|apply z4
   refine HB ?_
   repeat first|apply z1|apply z2|apply z3|apply z4
   refine UN [0,1,35,36,37] 0 (fun a:Nat×((List Ac)×Int)=>CU a.1 l13 a.2.1 a.2.2=some y) (fun a=>a.1) (fun a:Nat×((List Ac)×Int)=>match a with|(_,(l15,v371))=>⟨[(0,.sl [] .own),(1,oO l15),(35,oS l13),(36,iP (l13.length:Int)),(37,iP v371)],[]⟩) (n,(l12,0)) (Ö rfl) rfl e ?_
   clear e
   rintro⟨n,l15,v371⟩ e
   show WS _ _ _ _ _ ⟨[(0,.sl [] .own),(1,oO l15),(35,oS l13),(36,iP (l13.length:Int)),(37,iP v371)],[]⟩
   cases n with
   |zero=>exact absurd e (by simp [CU])
   |succ n =>
    replace e:=(CU.eq_2 (n:=n) l13 l15 v371).symm.trans e
    repeat first|apply z1|apply z2|apply z3|apply z4
    refine wr [0,1,35,36,37,38] 0 (EC 1 []) ⟨[(0,.sl [] .own),(1,oO l15),(35,oS l13),(36,iP (l13.length:Int)),(37,iP v371),(38,bP (decide (v371<(l13.length:Int))))],[]⟩ True.intro (by kernel_rfl) ?_
    repeat first|apply z1|apply z2|apply z3|apply z4
    rcases Aj e with⟨u,e⟩|⟨u,e⟩
    . refine GQ (test u) ?_
      repeat first|apply z1|apply z2|apply z3|apply z4
      refine HB ?_
      repeat first|apply z1|apply z2|apply z3|apply z4
      obtain⟨x,M,e⟩:=Ab e
      refine wr [0,1,2,3,35,36,37,38] 1 (EC 1 (.val (.vptr [tP x] 0)::(EC 4 []))) ⟨[(0,.sl [] .own),(1,oO l15),(2,.ptr 0 0),(3,tP x),(35,oS l13),(36,iP (l13.length:Int)),(37,iP v371),(38,bP (decide (v371<(l13.length:Int))))],[[iP v371]]⟩ (And.intro (oi M LS (JP x)) True.intro) (by kernel_rfl) ?_
      refine Pq [] [iP v371] ⟨[(0,.sl [] .own),(1,oO l15),(2,.vptr [iP v371] 0),(3,tP x),(35,oS l13),(36,iP (l13.length:Int)),(37,iP v371),(38,bP (decide (v371<(l13.length:Int))))],[]⟩ (by kernel_rfl) rfl (Ö rfl) (by kernel_rfl) (by kernel_rfl) (by kernel_rfl) (by kernel_rfl) ?_
      repeat first|apply z1|apply z2|apply z3|apply z4
      obtain⟨l16,O,e⟩:=Ab e
      have fb14:([[iP 4]]:List (List PV))=l16.map BH:=by rw [<- Ag O];simp only [ß,õ,Bu]<;>rfl
      obtain⟨l17,P,e⟩:=Ab e
      have fb15:([[iP 4,tP x,hI l16,iP 2,.fno true 98 [.vptr [iP v371] 0]]]:List (List PV))=l17.map AN:=by rw [<- Ag P];simp only [ß,õ,BS]<;>rfl
      obtain⟨l18,R,e⟩:=Ab e
      refine wr [0,1,35,36,37,38] 0 (EC 2 (.val (oI l16)::(EC 2 (.val (oO l17)::(.val (oO l18)::(EC 1 [])))))) ⟨[(0,.sl [] .own),(1,oO l18),(35,oS l13),(36,iP (l13.length:Int)),(37,iP v371),(38,bP (decide (v371<(l13.length:Int))))],[]⟩ (And.intro (D5 rfl fb14) (And.intro (D5 rfl fb15) (And.intro (Aaw R Co) True.intro))) (by kernel_rfl) ?_
      repeat first|apply z1|apply z2|apply z3|apply z4
      refine wr [0,1,35,36,37,38] 0 (EC 2 []) ⟨[(0,.sl [] .own),(1,oO l18),(35,oS l13),(36,iP (l13.length:Int)),(37,iP (À (v371+1))),(38,bP (decide (v371<(l13.length:Int))))],[]⟩ True.intro (by kernel_rfl) ?_
      repeat first|exact Ks (n,(l18,(À (v371+1)))) rfl e (ĭ _)|apply z3|apply z2|apply z1|apply z4
    . refine Fu (test u) ?_
      repeat first|apply z1|apply z2|apply z3|apply z4
      try refine z5 rfl ?_
      repeat first|exact Li [0,1,35,36,37,38] 0 rfl (Ö rfl) rfl (hJ (l15,v371,(decide (v371<(l13.length:Int)))) (Ag e))|apply z3|apply z2|apply z1|apply z4
end Go.Proofs.YtehfpameijkafaaGreatDoor
namespace Go.Proofs.YtehfpameijkafaaGreatDoor
open Go.RowKit Go.Q Go.Vl Go.Sp
set_option maxRecDepth 100000
theorem Ag9:BZ Tryz.prog 60 [] Bj:=by
 intro σ
 refine VC.pure (Q:=fun x=>x=.ret Bj) ?_ rfl |>.mono fun x σ' h=>h
 refine VC.less (Aha (fun x σ'=>∃ y os,Ord os/\shareP y=hP (opsOf os) AN/\x=.ret y/\σ'=[]) ?_) ?_
 . intro os a l d r f y b
   refine⟨y,os,a,?_,rfl,rfl⟩
   have c:=Yo l (Xq (ndl 6 os a.1 a.2.1) d)
   rw [c] at f
   rw [b,<- Ag f,d]
   rfl
 . rintro x σ' ⟨y,os,a,b,rfl,rfl⟩
   refine⟨.ret Bj,⟨rfl,rfl⟩,fun w G e i=>?_⟩
   obtain⟨v,c,g,_⟩:=D8.shareP i
   rw [b] at g
   exact⟨v,c,.dis _ _ os _ (by rw [Aap a];exact g),trivial⟩
theorem Zl:Cv [] Tryz.f61.ntmps (Tryz.f61.body.getD .skip)=true:=by kernel_rfl
theorem Acr (Q:Cs->List (List PV)->Prop)(hQ:∀ y,shareP y=D3->Q (.ret y) []):VC Tryz.prog 61 [] [] Q:=by
 refine VC.intro ⟨[0],[]⟩ Tryz.func61 rfl follows Zl (by rw [Tryz.ntmps61];exact Ö rfl) ?_
 refine Sc ?_
 repeat first|apply z1|apply z2|apply z3|apply z4
 refine wr [0] 0 (EC 1 []) ⟨[(0,.lit (.map none))],[]⟩ True.intro (by kernel_rfl) ?_
 repeat first|apply z1|apply z2|apply z3|apply z4
 refine wr [0] 1 (EC 7 []) ⟨[(0,.mref 0)],[[.mp (Oo BX)]]⟩ True.intro (by kernel_rfl) ?_
 repeat first|apply z1|apply z2|apply z3|apply z4
 refine XS [] (Oo BX) ⟨[(0,D3)],[]⟩ (by kernel_rfl) rfl (Ö rfl) (by kernel_rfl) (by kernel_rfl) (by kernel_rfl) ?_
 exact Ju (Ij hQ (by kernel_rfl)).1
theorem Ae5:BZ Tryz.prog 61 [] D3:=VC.fin (fun Q hQ=>Acr Q hQ) rfl rfl
theorem Aau:Cv [] Tryz.f35.ntmps (Tryz.f35.body.getD .skip)=true:=by kernel_rfl
theorem Ae6 (Q:Cs->List (List PV)->Prop)(hQ:∀ y,shareP y=.agg [Bj,D3]->Q (.ret y) []):VC Tryz.prog 35 [] [] Q:=by
 refine VC.intro ⟨[0],[]⟩ Tryz.func35 rfl follows Aau (by rw [Tryz.ntmps35];exact Ö rfl) ?_
 refine Sc ?_
 repeat first|apply z1|apply z2|apply z3|apply z4
 refine wr [0] 1 (EC 1 []) ⟨[(0,.ptr 0 0)],[[.sl [] .own,.lit (.map none)]]⟩ True.intro (by kernel_rfl) ?_
 repeat first|apply z1|apply z2|apply z3|apply z4
 refine wr [0] 1 (.call Bj::.call D3::EC 2 []) ⟨[(0,.ptr 0 0)],[[Bj,D3]]⟩ (And.intro Ag9 (And.intro Ae5 True.intro)) (by kernel_rfl) ?_
 repeat first|apply z1|apply z2|apply z3|apply z4
 exact Ju (Ij hQ (by kernel_rfl)).1
theorem QA:BZ Tryz.prog 35 [] (.agg [Bj,D3]):=VC.fin (fun Q hQ=>Ae6 Q hQ) rfl rfl
end Go.Proofs.YtehfpameijkafaaGreatDoor
namespace Go.Proofs.YtehfpameijkafaaGreatDoor
open Go.RowKit Go.Q Go.Vl Go.Sp
set_option maxRecDepth 100000
set_option linter.unusedSimpArgs false
set_option maxHeartbeats 4000000
set_option linter.unusedVariables false
theorem Ls (m_:Ah)(x:(List Int))(r:Int)(h:FY m_ x=some r):BZ Tryz.prog 82 [.agg (kM m_),hI x] (iP r):=by
 unfold FY at h
 refine vP ⟨[0,1,4],[]⟩ Tryz.func82 follows fun Q b=>?_
 obtain⟨x1,a,h⟩:=Ab h
 cases h
 exact rt 2 [(3,fi An a)] b
theorem OM (x:Int)(y:Int)(r:(Int×Int))(h:Ft x y=some r):BZ Tryz.prog 141 [.lit (.int .u64 x),.lit (.int .u64 y)] (.tup [.lit (.int .u64 r.1),.lit (.int .u64 r.2)]):=by
 unfold Ft at h
 refine vP ⟨[0,1,4,5,6,7,8,9,10,11,12,13],[]⟩ Tryz.func141 follows fun Q a=>?_
 cases h
 exact rt 12 [] a
theorem Q6 (a_:Int)(b:Int)(r:Int)(h:DG a_ b=some r):BZ Tryz.prog 84 [iP a_,iP b] (iP r):=by
 unfold DG at h
 refine vP ⟨[0,1,4,5,6,7,27,34],[]⟩ Tryz.func84 follows fun Q g=>?_
 obtain⟨m_,d,h⟩:=Ab h
 refine mE 3 [(11,fk (OM _ _ _ d))] h (fun v27=>⟨[(0,iP a_),(1,iP b),(4,iP 0),(6,.lit (.int .u64 m_.2)),(7,iP 999999999999999),(27,bP v27)],[]⟩) ?_ fun y e hJ=>?_
 rintro v27 h
 refine mE 0 [] h (fun n_=>⟨[(0,iP a_),(1,iP b),(4,iP 0),(7,iP n_)],[]⟩) ?_ fun y1 e1 c=>?_
 rintro n_ h
 refine cD 1 [] h (fun i h=>?_) fun i h=>?_
 cases h
 exact rt 1 [] g
 cases h
 exact rt 1 [] g
 refine cD 0 [] e1 (fun f e1=>?_) fun f e1=>?_
 exact mJ 1 [] (c _ (oj e1))
 exact mJ 0 [] (c _ (oj e1))
 rcases Aj e with⟨a,e⟩|⟨a,e⟩
 exact mJ 1 [(2,fo a)] (hJ _ (oj e))
 exact mJ 1 [(2,fo a)] (hJ _ (oj e))
theorem Lr (m_:Ah)(x:(List Int))(r:Int)(h:FX m_ x=some r):BZ Tryz.prog 83 [.agg (kM m_),hI x] (iP r):=by
 unfold FX at h
 refine vP ⟨[0,1,4],[(1,[9999,0,0,1,2,3,4,5,6,7])]⟩ Tryz.func83 follows fun Q c=>?_
 obtain⟨x1,a,h⟩:=Ab h
 obtain⟨x2,b,h⟩:=Ab h
 obtain⟨t,d,h⟩:=Ab h
 cases h
 exact rt 2 [(3,fi An a),(2,fi An b),(1,fk (Q6 _ _ _ d))] c
theorem Ld (n_:Int)(r:Int)(h:Dj n_=some r):BZ Tryz.prog 86 [iP n_] (iP r):=by
 unfold Dj at h
 refine vP ⟨[0,2],[]⟩ Tryz.func86 follows fun Q a=>?_
 cases h
 exact rt 2 [] a
theorem Lq (m_:Ah)(x:(List Int))(r:Int)(h:FW m_ x=some r):BZ Tryz.prog 85 [.agg (kM m_),hI x] (iP r):=by
 unfold FW at h
 refine vP ⟨[0,1,4],[(1,[9999,0,0,1,2,3,4,5,6,7,8])]⟩ Tryz.func85 follows fun Q d=>?_
 obtain⟨x1,a,h⟩:=Ab h
 obtain⟨x2,b,h⟩:=Ab h
 obtain⟨n_,c,h⟩:=Ab h
 cases h
 exact rt 2 [(3,fi An a),(2,fi An b),(2,fk (Ld _ _ c))] d
theorem NS (n_:Int)(r:Int)(h:Ga n_=some r):BZ Tryz.prog 96 [iP n_] (iP r):=by
 unfold Ga at h
 refine vP ⟨[0,2],[]⟩ Tryz.func96 follows fun Q a=>?_
 cases h
 exact rt 2 [] a
theorem L8 (d:Int)(n_:Int)(r:Int)(h:DH d n_=some r):BZ Tryz.prog 88 [iP d,iP n_] (iP r):=by
 unfold DH at h
 refine vP ⟨[0,1,4,6],[]⟩ Tryz.func88 follows fun Q b=>?_
 refine cD 2 [] h (fun c h=>?_) fun c h=>?_
 cases h
 exact rt 1 [] b
 obtain⟨d1,a,h⟩:=Ab h
 cases h
 exact rt 1 [(3,fk (NS _ _ a))] b
theorem Lp (m_:Ah)(x:(List Int))(r:Int)(h:FV m_ x=some r):BZ Tryz.prog 87 [.agg (kM m_),hI x] (iP r):=by
 unfold FV at h
 refine vP ⟨[0,1,4],[(1,[9999,0,0,1,2,3,4,5,6,7])]⟩ Tryz.func87 follows fun Q d=>?_
 obtain⟨x1,b,h⟩:=Ab h
 obtain⟨x2,c,h⟩:=Ab h
 obtain⟨m_1,a,h⟩:=Ab h
 cases h
 exact rt 2 [(3,fi An b),(2,fi An c),(1,fk (L8 _ _ _ a))] d
theorem Lo (m_:Ah)(x:(List Int))(r:Int)(h:FU m_ x=some r):BZ Tryz.prog 89 [.agg (kM m_),hI x] (iP r):=by
 unfold FU at h
 refine vP ⟨[0,1,4],[(1,[9999,0,0,1,2,3,4,5,6,7,8])]⟩ Tryz.func89 follows fun Q d=>?_
 obtain⟨x1,a,h⟩:=Ab h
 obtain⟨x2,b,h⟩:=Ab h
 obtain⟨n_,c,h⟩:=Ab h
 cases h
 exact rt 2 [(3,fi An a),(2,fi An b),(2,fk (Ld _ _ c))] d
theorem Ln (m_:Ah)(x:(List Int))(r:Int)(h:FT m_ x=some r):BZ Tryz.prog 90 [.agg (kM m_),hI x] (iP r):=by
 unfold FT at h
 refine vP ⟨[0,1,4],[(1,[9999,0,0,1,2,3,4,5,6,7,8])]⟩ Tryz.func90 follows fun Q d=>?_
 obtain⟨x1,b,h⟩:=Ab h
 obtain⟨x2,c,h⟩:=Ab h
 obtain⟨m_1,a,h⟩:=Ab h
 cases h
 exact rt 2 [(3,fi An b),(2,fi An c),(2,fk (L8 _ _ _ a))] d
theorem Lm (m_:Ah)(x:(List Int))(r:Int)(h:FR m_ x=some r):BZ Tryz.prog 91 [.agg (kM m_),hI x] (iP r):=by
 unfold FR at h
 refine vP ⟨[0,1,4],[(1,[9999,0,0,1,2,3,4,5,6,7])]⟩ Tryz.func91 follows fun Q c=>?_
 obtain⟨x1,a,h⟩:=Ab h
 obtain⟨x2,b,h⟩:=Ab h
 cases h
 exact rt 2 [(3,fi An a),(2,fi An b)] c
theorem Ll (m_:Ah)(x:(List Int))(r:Int)(h:FQ m_ x=some r):BZ Tryz.prog 92 [.agg (kM m_),hI x] (iP r):=by
 unfold FQ at h
 refine vP ⟨[0,1,4],[]⟩ Tryz.func92 follows fun Q b=>?_
 obtain⟨x1,a,h⟩:=Ab h
 cases h
 exact rt 2 [(3,fi An a)] b
theorem Lk (m_:Ah)(x:(List Int))(r:Int)(h:FP m_ x=some r):BZ Tryz.prog 93 [.agg (kM m_),hI x] (iP r):=by
 unfold FP at h
 refine vP ⟨[0,1,4],[(1,[9999,0,0,1,2,3,4,5,6,7])]⟩ Tryz.func93 follows fun Q c=>?_
 obtain⟨x1,a,h⟩:=Ab h
 obtain⟨x2,b,h⟩:=Ab h
 cases h
 exact rt 2 [(3,fi An a),(2,fi An b)] c
theorem K8 (m_:Ah)(x:(List Int))(r:Int)(h:FC m_ x=some r):BZ Tryz.prog 94 [.agg (kM m_),hI x] (iP r):=by
 unfold FC at h
 refine vP ⟨[0,1,4],[(1,[9999,0,0,1,2,3,4,5,6,7])]⟩ Tryz.func94 follows fun Q c=>?_
 obtain⟨x1,a,h⟩:=Ab h
 obtain⟨x2,b,h⟩:=Ab h
 cases h
 exact rt 2 [(3,fi An a),(2,fi An b)] c
theorem K7 (m_:Ah)(x:(List Int))(r:Int)(h:FB m_ x=some r):BZ Tryz.prog 95 [.agg (kM m_),hI x] (iP r):=by
 unfold FB at h
 refine vP ⟨[0,1,4],[]⟩ Tryz.func95 follows fun Q b=>?_
 obtain⟨x1,a,h⟩:=Ab h
 obtain⟨d,c,h⟩:=Ab h
 cases h
 exact rt 2 [(3,fi An a),(1,fk (NS _ _ c))] b
theorem K6 (m_:Ah)(x:(List Int))(r:Int)(h:FA m_ x=some r):BZ Tryz.prog 97 [.agg (kM m_),hI x] (iP r):=by
 unfold FA at h
 refine vP ⟨[0,1,4],[]⟩ Tryz.func97 follows fun Q b=>?_
 obtain⟨x1,a,h⟩:=Ab h
 cases h
 exact rt 2 [(3,fi An a)] b
theorem Ky (m_:Ah)(x:(List Int))(r:Int)(h:F2 m_ x=some r):BZ Tryz.prog 108 [.agg (kM m_),hI x] (iP r):=by
 unfold F2 at h
 refine vP ⟨[0,1,4],[]⟩ Tryz.func108 follows fun Q c=>?_
 obtain⟨x1,a,h⟩:=Ab h
 obtain⟨x2,b,h⟩:=Ab h
 cases h
 exact rt 2 [(4,fi An a),(2,fi An b)] c
theorem Kx (m_:Ah)(x:(List Int))(r:Int)(h:F1 m_ x=some r):BZ Tryz.prog 109 [.agg (kM m_),hI x] (iP r):=by
 unfold F1 at h
 refine vP ⟨[0,1,4],[(1,[9999,0,0,1,2,3,4,5,6,7])]⟩ Tryz.func109 follows fun Q c=>?_
 obtain⟨x1,a,h⟩:=Ab h
 obtain⟨x2,b,h⟩:=Ab h
 cases h
 exact rt 2 [(3,fi An a),(2,fi An b)] c
theorem Kw (m_:Ah)(x:(List Int))(r:Int)(h:F0 m_ x=some r):BZ Tryz.prog 110 [.agg (kM m_),hI x] (iP r):=by
 unfold F0 at h
 refine vP ⟨[0,1,4],[(1,[9999,0,0,1,2,3,4,5,6,7])]⟩ Tryz.func110 follows fun Q c=>?_
 obtain⟨x1,a,h⟩:=Ab h
 obtain⟨x2,b,h⟩:=Ab h
 cases h
 exact rt 2 [(3,fi An a),(2,fi An b)] c
theorem K4 (a_:Int)(b:Int)(r:Bool)(h:F8 a_ b=some r):BZ Tryz.prog 100 [iP a_,iP b] (bP r):=by
 unfold F8 at h
 refine vP ⟨[0,1,4],[]⟩ Tryz.func100 follows fun Q a=>?_
 cases h
 exact rt 2 [] a
theorem K3 (a_:Int)(b:Int)(r:Bool)(h:F7 a_ b=some r):BZ Tryz.prog 101 [iP a_,iP b] (bP r):=by
 unfold F7 at h
 refine vP ⟨[0,1,4],[]⟩ Tryz.func101 follows fun Q a=>?_
 cases h
 exact rt 2 [] a
theorem K2 (a_:Int)(b:Int)(r:Bool)(h:F6 a_ b=some r):BZ Tryz.prog 102 [iP a_,iP b] (bP r):=by
 unfold F6 at h
 refine vP ⟨[0,1,4],[]⟩ Tryz.func102 follows fun Q a=>?_
 cases h
 exact rt 2 [] a
theorem K1 (a_:Int)(b:Int)(r:Bool)(h:F5 a_ b=some r):BZ Tryz.prog 103 [iP a_,iP b] (bP r):=by
 unfold F5 at h
 refine vP ⟨[0,1,4],[]⟩ Tryz.func103 follows fun Q a=>?_
 cases h
 exact rt 2 [] a
theorem K0 (a_:Int)(b:Int)(r:Bool)(h:F4 a_ b=some r):BZ Tryz.prog 104 [iP a_,iP b] (bP r):=by
 unfold F4 at h
 refine vP ⟨[0,1,4],[]⟩ Tryz.func104 follows fun Q a=>?_
 cases h
 exact rt 2 [] a
theorem Kz (a_:Int)(b:Int)(r:Bool)(h:F3 a_ b=some r):BZ Tryz.prog 105 [iP a_,iP b] (bP r):=by
 unfold F3 at h
 refine vP ⟨[0,1,4],[]⟩ Tryz.func105 follows fun Q a=>?_
 cases h
 exact rt 2 [] a
theorem Nn (n:Nat)(m_:Ah)(kind:Int)(who:Int)(r:Int)(h:CD n m_ kind who=some r):BZ Tryz.prog 99 [.agg (kM m_),iP kind,iP who] (iP r):=by
 unfold CD at h
 refine vP ⟨[0,1,2,3,6,7,8,9,12,13,14,15,51,55],[(5,[9999,0,0,1,2,3,4,5,6,7,8,9,10,11,12,13,14,15,16,17,18,19,20,21,22,23,24,25,26,27,28,29,30,31,32])]⟩ Tryz.func99 follows fun Q m=>?_
 refine mE 3 [(6,fl Bz m_.d.Facts)] h (fun best=>⟨[(3,.ptr 0 0),(6,iP 0),(7,iP best)],[kM m_]⟩) ?_ fun y e hJ=>?_
 rintro best h
 refine cD 1 [] h (fun o h=>?_) fun o h=>?_
 cases h
 exact rt 1 [] m
 obtain⟨x,p,h⟩:=Ab h
 cases h
 exact rt 1 [(4,fi Bz p)] m
 refine lF 1 [] (A:=(Int×Int)) (fun n (best1,v14)=>Bw n m_ kind who best1 v14) (fun (best1,v14)=>⟨[(1,iP kind),(2,iP who),(3,.ptr 0 0),(6,iP 0),(7,iP best1),(12,hZ m_.d.Facts),(13,iP (m_.d.Facts.length:Int)),(14,iP v14)],[kM m_]⟩) (-1,0) e (fun _=>rfl) ?_
 rintro n ⟨best1,v14⟩ e ih
 replace e:=(Bw.eq_2 ..).symm.trans e
 refine cD 1 [] e (fun i e=>?_) fun i e=>?_
 obtain⟨x1,j,e⟩:=Ab e
 refine mE 2 [(1,fi Bz j)] e (fun v51=>⟨[(1,iP kind),(2,iP who),(3,.ptr 0 0),(6,iP 0),(7,iP best1),(8,iP v14),(12,hZ m_.d.Facts),(13,iP (m_.d.Facts.length:Int)),(14,iP v14),(51,bP v51)],[kM m_,kZ x1]⟩) ?_ fun y1 e1 b=>?_
 rintro v51 e
 refine cD 0 [] e (fun k e=>?_) fun k e=>?_
 exact mJ 2 [] (ih (_,_) e)
 exact mJ 1 [] (ih (_,_) e)
 rcases Aj e1 with⟨a,e1⟩|⟨a,e1⟩
 rcases Aj e1 with⟨c,e1⟩|⟨c,e1⟩
 rcases Aj e1 with⟨f,e1⟩|⟨f,e1⟩
 rcases Aj e1 with⟨g,e1⟩|⟨g,e1⟩
 exact mJ 1 [(4,fo a),(5,fo c),(6,fo f),(2,fo g)] (b _ (oj e1))
 obtain⟨x2,l,e1⟩:=Ab e1
 exact mJ 1 [(4,fo a),(5,fo c),(6,fo f),(2,fo g),(6,fi Bz l)] (b _ (oj e1))
 exact mJ 1 [(4,fo a),(5,fo c),(6,fo f)] (b _ (oj e1))
 exact mJ 1 [(4,fo a),(5,fo c)] (b _ (oj e1))
 exact mJ 1 [(4,fo a)] (b _ (oj e1))
 exact mJ 1 [] (hJ _ (oj e))
theorem Fv (b:Bool)(r:Int)(h:D9 b=some r):BZ Tryz.prog 107 [bP b] (iP r):=by
 unfold D9 at h
 refine vP ⟨[0,2,3],[]⟩ Tryz.func107 follows fun Q a=>?_
 refine cD 2 [] h (fun c h=>?_) fun c h=>?_
 cases h
 exact rt 1 [] a
 cases h
 exact rt 1 [] a
theorem K5 (n:Nat)(k:Int)(m_:Ah)(x:(List Int))(r:Int)(h:F9 n k m_ x=some r):BZ Tryz.prog 98 [.agg (kM m_),hI x,.vptr [iP k] 0] (iP r):=by
 unfold F9 at h
 refine vP ⟨[0,1,2,3,5],[(1,[9999,0,0,1,2,3,4,5,6,7])]⟩ Tryz.func98 follows fun Q b=>?_
 obtain⟨x1,a,h⟩:=Ab h
 obtain⟨f,c,h⟩:=Ab h
 cases h
 exact rt 2 [(6,fi An a),(1,fk (Nn _ _ _ _ _ c))] b
theorem IZ (m_:Ah)(x:(List Int))(r:Int)(h:Em m_ x=some r):BZ Tryz.prog 106 [.agg (kM m_),hI x,.vptr [.fno true 100 []] 0] (iP r):=by
 unfold Em at h
 refine vP ⟨[0,1,2,5],[(1,[9999,0,0,1,2,3,4,5,6,7,8,9])]⟩ Tryz.func106 follows fun Q d=>?_
 obtain⟨x1,a,h⟩:=Ab h
 obtain⟨x2,b,h⟩:=Ab h
 obtain⟨o_,c,h⟩:=Ab h
 obtain⟨f,e,h⟩:=Ab h
 cases h
 exact rt 2 [(4,fi An a),(2,fi An b),(1,fk (K4 _ _ _ c)),(0,fk (Fv _ _ e))] d
theorem IY (m_:Ah)(x:(List Int))(r:Int)(h:El m_ x=some r):BZ Tryz.prog 106 [.agg (kM m_),hI x,.vptr [.fno true 101 []] 0] (iP r):=by
 unfold El at h
 refine vP ⟨[0,1,2,5],[(1,[9999,0,0,1,2,3,4,5,6,7,8,9])]⟩ Tryz.func106 follows fun Q d=>?_
 obtain⟨x1,a,h⟩:=Ab h
 obtain⟨x2,b,h⟩:=Ab h
 obtain⟨o_,c,h⟩:=Ab h
 obtain⟨f,e,h⟩:=Ab h
 cases h
 exact rt 2 [(4,fi An a),(2,fi An b),(1,fk (K3 _ _ _ c)),(0,fk (Fv _ _ e))] d
theorem IX (m_:Ah)(x:(List Int))(r:Int)(h:Ek m_ x=some r):BZ Tryz.prog 106 [.agg (kM m_),hI x,.vptr [.fno true 102 []] 0] (iP r):=by
 unfold Ek at h
 refine vP ⟨[0,1,2,5],[(1,[9999,0,0,1,2,3,4,5,6,7,8,9])]⟩ Tryz.func106 follows fun Q d=>?_
 obtain⟨x1,a,h⟩:=Ab h
 obtain⟨x2,b,h⟩:=Ab h
 obtain⟨o_,c,h⟩:=Ab h
 obtain⟨f,e,h⟩:=Ab h
 cases h
 exact rt 2 [(4,fi An a),(2,fi An b),(1,fk (K2 _ _ _ c)),(0,fk (Fv _ _ e))] d
theorem IW (m_:Ah)(x:(List Int))(r:Int)(h:Ej m_ x=some r):BZ Tryz.prog 106 [.agg (kM m_),hI x,.vptr [.fno true 103 []] 0] (iP r):=by
 unfold Ej at h
 refine vP ⟨[0,1,2,5],[(1,[9999,0,0,1,2,3,4,5,6,7,8,9])]⟩ Tryz.func106 follows fun Q d=>?_
 obtain⟨x1,a,h⟩:=Ab h
 obtain⟨x2,b,h⟩:=Ab h
 obtain⟨o_,c,h⟩:=Ab h
 obtain⟨f,e,h⟩:=Ab h
 cases h
 exact rt 2 [(4,fi An a),(2,fi An b),(1,fk (K1 _ _ _ c)),(0,fk (Fv _ _ e))] d
theorem IV (m_:Ah)(x:(List Int))(r:Int)(h:Ei m_ x=some r):BZ Tryz.prog 106 [.agg (kM m_),hI x,.vptr [.fno true 104 []] 0] (iP r):=by
 unfold Ei at h
 refine vP ⟨[0,1,2,5],[(1,[9999,0,0,1,2,3,4,5,6,7,8,9])]⟩ Tryz.func106 follows fun Q d=>?_
 obtain⟨x1,a,h⟩:=Ab h
 obtain⟨x2,b,h⟩:=Ab h
 obtain⟨o_,c,h⟩:=Ab h
 obtain⟨f,e,h⟩:=Ab h
 cases h
 exact rt 2 [(4,fi An a),(2,fi An b),(1,fk (K0 _ _ _ c)),(0,fk (Fv _ _ e))] d
theorem IU (m_:Ah)(x:(List Int))(r:Int)(h:Eh m_ x=some r):BZ Tryz.prog 106 [.agg (kM m_),hI x,.vptr [.fno true 105 []] 0] (iP r):=by
 unfold Eh at h
 refine vP ⟨[0,1,2,5],[(1,[9999,0,0,1,2,3,4,5,6,7,8,9])]⟩ Tryz.func106 follows fun Q d=>?_
 obtain⟨x1,a,h⟩:=Ab h
 obtain⟨x2,b,h⟩:=Ab h
 obtain⟨o_,c,h⟩:=Ab h
 obtain⟨f,e,h⟩:=Ab h
 cases h
 exact rt 2 [(4,fi An a),(2,fi An b),(1,fk (Kz _ _ _ c)),(0,fk (Fv _ _ e))] d
end Go.Proofs.YtehfpameijkafaaGreatDoor
namespace Go.Proofs.YtehfpameijkafaaGreatDoor
open Go.RowKit Go.Q Go.Vl Go.Sp
set_option maxRecDepth 100000
set_option linter.unusedSimpArgs false
set_option maxHeartbeats 4000000
set_option linter.unusedVariables false
theorem NQ (op:Int)(r:Int)(h:EG op=some r):BZ Tryz.prog 66 [iP op] (iP r):=by
 unfold EG at h
 refine vP ⟨[0,2,3,4,8,11,13],[]⟩ Tryz.func66 follows fun Q a=>?_
 refine mE 4 [] h (fun v4=>⟨[(2,iP 0),(3,iP op),(4,bP v4)],[]⟩) ?_ fun y e hJ=>?_
 rintro v4 h
 refine cD 0 [] h (fun c h=>?_) fun c h=>?_
 cases h
 exact rt 1 [] a
 refine mE 1 [] h (fun v8=>⟨[(2,iP 0),(3,iP op),(8,bP v8)],[]⟩) ?_ fun y1 e1 b=>?_
 rintro v8 h
 refine cD 0 [] h (fun d h=>?_) fun d h=>?_
 cases h
 exact rt 1 [] a
 refine cD 1 [] h (fun f h=>?_) fun f h=>?_
 cases h
 exact rt 1 [] a
 refine cD 1 [] h (fun k h=>?_) fun k h=>?_
 cases h
 exact rt 1 [] a
 cases h
 exact rt 1 [] a
 refine cD 0 [] e1 (fun g e1=>?_) fun g e1=>?_
 exact mJ 0 [] (b _ (oj e1))
 exact mJ 1 [] (b _ (oj e1))
 refine cD 0 [] e (fun i e=>?_) fun i e=>?_
 exact mJ 0 [] (hJ _ (oj e))
 refine cD 1 [] e (fun j e=>?_) fun j e=>?_
 exact mJ 0 [] (hJ _ (oj e))
 exact mJ 1 [] (hJ _ (oj e))
theorem Bt (s:(List Ac))(s1:(List (ByteArray×Int)))(e:Int)(e1:Int)(e2:Æ)(e3:(List Af))(e4:Int)(o_:Int)(o_1:Æ)(o_2:(List Int))(o_3:Int)(o_4:Do)(p:Int)(p1:Int)(x:Int)(r:(Int×Ac×Am))(h:AP s s1 e e1 e2 e3 e4 o_ o_1 o_2 o_3 o_4 p p1 x=some r):JW Tryz.prog 65 [iP x,.ptr 1 0] [[hO s,.vmp (Oo s1)],[iP e,iP e1,tP e2,hX e3,iP e4],[iP o_,tP o_1,oI o_2,iP o_3,.fno (MG o_4) (Lh o_4) (Lw o_4)],[iP p,iP p1]] (.ret (.tup [iP r.1,.agg [iP r.2.1.op,tP r.2.1.name,hI r.2.1.args,iP r.2.1.kind,.fno (MG r.2.1.do_) (Lh r.2.1.do_) (Lw r.2.1.do_)],.agg [iP r.2.2.At,iP r.2.2.E]])) [[hO s,.vmp (Oo s1)],[iP e,iP e1,tP e2,hX e3,iP e4],[iP o_,tP o_1,oI o_2,iP o_3,.fno (MG o_4) (Lh o_4) (Lw o_4)],[iP p,iP p1]]:=by
 unfold AP at h
 refine vS ⟨[0,1,3,4,5],[(1,[9999,1,4,0,1,2,3,4,5,6,7])]⟩ Tryz.func65 follows fun Q a=>?_
 cases h
 exact rt 2 [] a
theorem OK (n:Nat)(s1:(List Int))(s2:(List Int))(r:Bool)(h:Eo n s1 s2=some r):BZ Tryz.prog 67 [hI s1,hI s2] (bP r):=by
 unfold Eo at h
 refine vP ⟨[0,1,4,5,10,12,13,14,24],[]⟩ Tryz.func67 follows fun Q a=>?_
 refine cD 2 [(2,fl An s1),(1,fl An s2)] h (fun b h=>?_) fun b h=>?_
 cases h
 exact rt 1 [] a
 refine mI 1 [(1,fl An s1)] h (fun _=>⟨[(4,bP false)],[]⟩) ?_ fun y e h hJ=>?_
 rintro _ h
 cases h
 exact rt 1 [] a
 refine lF 1 [] (A:=Int) (fun n v13=>Cg n s1 s2 v13) (fun v13=>⟨[(0,hI s1),(1,hI s2),(4,bP false),(12,iP (s1.length:Int)),(13,iP v13)],[]⟩) 0 e (fun _=>rfl) ?_
 rintro n v13 e ih
 replace e:=(Cg.eq_2 ..).symm.trans e
 refine cD 1 [] e (fun c e=>?_) fun c e=>?_
 obtain⟨x,f,e⟩:=Ab e
 obtain⟨x1,d,e⟩:=Ab e
 refine cD 3 [(4,fi An f),(3,fi An d)] e (fun g e=>?_) fun g e=>?_
 cases e
 cases h
 exact rt 1 [] a
 exact mJ 1 [] (ih _ e)
 exact mJ 1 [] (hJ _ (oj e))
theorem Kv (n0:Nat)
 (ih_statute_solver_find:∀ m,m<=n0->∀ (s:Bp) (e:Af) (r:(Int×Ac×Am)),A6 m s e=some r->BZ Tryz.prog 40 [.agg [hO s.ops,.vmp (Oo s.names)],.agg (kX e)] (.tup [iP r.1,.agg [iP r.2.1.op,tP r.2.1.name,hI r.2.1.args,iP r.2.1.kind,.fno (MG r.2.1.do_) (Lh r.2.1.do_) (Lw r.2.1.do_)],.agg [iP r.2.2.At,iP r.2.2.E]]))
 (n:Nat) (hn:n<=n0) (s:Bp) (e:Af) (r:(Int×Ac×Am)) (h:A6 (n+1) s e=some r):BZ Tryz.prog 40 [.agg [hO s.ops,.vmp (Oo s.names)],.agg (kX e)] (.tup [iP r.1,.agg [iP r.2.1.op,tP r.2.1.name,hI r.2.1.args,iP r.2.1.kind,.fno (MG r.2.1.do_) (Lh r.2.1.do_) (Lw r.2.1.do_)],.agg [iP r.2.2.At,iP r.2.2.E]]):=by
 replace h:=(A6.eq_2 ..).symm.trans h
 refine vP ⟨[0,1,2,3,4,5,6,7,8,9,11,12,14,15,16,17,18,20,43,50,51,52,53,65,74,75,84,92,99,109,119,120,121,122,141,154,160,173],[(11,[9999,1,2,0,1,2,3,4]),(18,[9999,1,2,0,1,2,3,4]),(24,[9999,1,2,0,1,2,3,4,5]),(31,[9999,0,0,1,2,3,4,5,6,7,8,9,10]),(33,[9999,1,2,0,1,2,3,4,5,6])]⟩ Tryz.func40 follows fun Q d=>?_
 obtain⟨n_,I,h⟩:=Ab h
 refine mE 3 [(9,fk (NQ _ _ I))] h (fun v43=>⟨[(2,.ptr 0 0),(3,.ptr 1 0),(4,iP 0),(5,.ptr 2 0),(6,.ptr 3 0),(7,.fn 65 [.ptr 1 0]),(43,bP v43)],[[hO s.ops,.vmp (Oo s.names)],kX e,[iP 0,tP ⟨#[]⟩,.sl [] .own,iP 0,.fno (MG Do.nil) (Lh Do.nil) (Lw Do.nil)],[iP 0,iP 0]]⟩) ?_ fun y e1 hJ=>?_
 rintro v43 h
 refine cD 0 [] h (fun t h=>?_) fun t h=>?_
 obtain⟨f,hf,h⟩:=Ab h
 cases h
 exact rt 1 [(1,fs (Bt _ _ _ _ _ _ _ _ _ _ _ _ _ _ _ _ hf))] d
 refine mI 2 [(3,fl AZ e.Kids)] h (fun types=>⟨[(2,.ptr 0 0),(3,.ptr 1 0),(4,iP 0),(5,.ptr 2 0),(6,.ptr 3 0),(7,.fn 65 [.ptr 1 0]),(9,oI types)],[[hO s.ops,.vmp (Oo s.names)],kX e,[iP 0,tP ⟨#[]⟩,.sl [] .own,iP 0,.fno (MG Do.nil) (Lh Do.nil) (Lw Do.nil)],[iP 0,iP 0]]⟩) ?_ fun y1 e2 h J=>?_
 rintro types h
 refine cD 3 [] h (fun u h=>?_) fun u h=>?_
 refine mE 0 [] h (fun v84=>⟨[(2,.ptr 0 0),(3,.ptr 1 0),(4,iP 0),(5,.ptr 2 0),(6,.ptr 3 0),(7,.fn 65 [.ptr 1 0]),(9,oI types),(84,bP v84)],[[hO s.ops,.vmp (Oo s.names)],kX e,[iP 0,tP ⟨#[]⟩,.sl [] .own,iP 0,.fno (MG Do.nil) (Lh Do.nil) (Lw Do.nil)],[iP 0,iP 0]]⟩) ?_ fun y2 e3 v=>?_
 rintro v84 h
 refine cD 0 [] h (fun hc h=>?_) fun hc h=>?_
 obtain⟨f1,K,h⟩:=Ab h
 cases h
 exact rt 1 [(1,fs (Bt _ _ _ _ _ _ _ _ _ _ _ _ _ _ _ _ K))] d
 cases h
 exact rt 1 [] d
 rcases Aj e3 with⟨j,e3⟩|⟨j,e3⟩
 exact mJ 1 [(3,fo j)] (v _ (oj e3))
 exact mJ 1 [(3,fo j)] (v _ (oj e3))
 refine cD 1 [] h (fun w h=>?_) fun w h=>?_
 obtain⟨f2,L,h⟩:=Ab h
 cases h
 exact rt 1 [(1,fs (Bt _ _ _ _ _ _ _ _ _ _ _ _ _ _ _ _ L))] d
 refine cD 1 [] h (fun z h=>?_) fun z h=>?_
 refine cD 2 [(4,fLS s.names e.S)] h (fun M h=>?_) fun M h=>?_
 cases h
 exact rt 1 [] d
 obtain⟨f3,N,h⟩:=Ab h
 cases h
 exact rt 1 [(1,fs (Bt _ _ _ _ _ _ _ _ _ _ _ _ _ _ _ _ N))] d
 refine mI 2 [(4,fl Ii s.ops)] h (fun (known,fits)=>⟨[(3,.ptr 1 0),(4,iP 0),(5,.ptr 2 0),(6,.ptr 3 0),(7,.fn 65 [.ptr 1 0]),(17,bP known),(18,bP fits)],[[hO s.ops,.vmp (Oo s.names)],kX e,[iP 0,tP ⟨#[]⟩,.sl [] .own,iP 0,.fno (MG Do.nil) (Lh Do.nil) (Lw Do.nil)],[iP 0,iP 0]]⟩) ?_ fun y3 e4 h O=>?_
 rintro⟨known,fits⟩ h
 refine mE 1 [] h (fun v160=>⟨[(3,.ptr 1 0),(4,iP 0),(5,.ptr 2 0),(6,.ptr 3 0),(7,.fn 65 [.ptr 1 0]),(18,bP fits),(160,bP v160)],[[hO s.ops,.vmp (Oo s.names)],kX e,[iP 0,tP ⟨#[]⟩,.sl [] .own,iP 0,.fno (MG Do.nil) (Lh Do.nil) (Lw Do.nil)],[iP 0,iP 0]]⟩) ?_ fun y4 e5 B=>?_
 rintro v160 h
 refine cD 0 [] h (fun P h=>?_) fun P h=>?_
 obtain⟨f4,R,h⟩:=Ab h
 cases h
 exact rt 1 [(1,fs (Bt _ _ _ _ _ _ _ _ _ _ _ _ _ _ _ _ R))] d
 refine mE 0 [] h (fun v173=>⟨[(4,iP 0),(5,.ptr 2 0),(6,.ptr 3 0),(7,.fn 65 [.ptr 1 0]),(173,bP v173)],[[hO s.ops,.vmp (Oo s.names)],kX e,[iP 0,tP ⟨#[]⟩,.sl [] .own,iP 0,.fno (MG Do.nil) (Lh Do.nil) (Lw Do.nil)],[iP 0,iP 0]]⟩) ?_ fun y5 e6 C=>?_
 rintro v173 h
 refine cD 0 [] h (fun T h=>?_) fun T h=>?_
 obtain⟨f5,U,h⟩:=Ab h
 cases h
 exact rt 1 [(1,fs (Bt _ _ _ _ _ _ _ _ _ _ _ _ _ _ _ _ U))] d
 obtain⟨f6,V,h⟩:=Ab h
 cases h
 exact rt 1 [(1,fs (Bt _ _ _ _ _ _ _ _ _ _ _ _ _ _ _ _ V))] d
 rcases Aj e6 with⟨k,e6⟩|⟨k,e6⟩
 exact mJ 1 [(3,fo k)] (C _ (oj e6))
 exact mJ 1 [(3,fo k)] (C _ (oj e6))
 rcases Aj e5 with⟨o,e5⟩|⟨o,e5⟩
 exact mJ 1 [(3,fo o)] (B _ (oj e5))
 exact mJ 1 [(3,fo o)] (B _ (oj e5))
 refine lR 1 [] (A:=(Bool×Bool×Int)) (fun n (known1,fits1,v121)=>AQ n s e types known1 fits1 v121) (fun (known1,fits1,v121)=>⟨[(3,.ptr 1 0),(4,iP 0),(5,.ptr 2 0),(6,.ptr 3 0),(7,.fn 65 [.ptr 1 0]),(9,oI types),(17,bP known1),(18,bP fits1),(119,hO s.ops),(120,iP (s.ops.length:Int)),(121,iP v121)],[[hO s.ops,.vmp (Oo s.names)],kX e,[iP 0,tP ⟨#[]⟩,.sl [] .own,iP 0,.fno (MG Do.nil) (Lh Do.nil) (Lw Do.nil)],[iP 0,iP 0]]⟩) (false,false,0) hn e4 (fun _=>rfl) ?_
 rintro n ⟨known1,fits1,v121⟩ hn e4 ih
 replace e4:=(AQ.eq_2 ..).symm.trans e4
 refine cD 1 [] e4 (fun D e4=>?_) fun D e4=>?_
 obtain⟨x,hx,e4⟩:=Ab e4
 refine mE 2 [(0,fi Ii hx)] e4 (fun v141=>⟨[(3,.ptr 1 0),(4,iP 0),(5,.ptr 2 0),(6,.ptr 3 0),(7,.fn 65 [.ptr 1 0]),(9,oI types),(17,bP known1),(18,bP fits1),(20,.ptr 4 0),(119,hO s.ops),(120,iP (s.ops.length:Int)),(121,iP v121),(141,bP v141)],[[hO s.ops,.vmp (Oo s.names)],kX e,[iP 0,tP ⟨#[]⟩,.sl [] .own,iP 0,.fno (MG Do.nil) (Lh Do.nil) (Lw Do.nil)],[iP 0,iP 0],kO x]⟩) ?_ fun y6 e7 p=>?_
 rintro v141 e4
 refine cD 0 [] e4 (fun W e4=>?_) fun W e4=>?_
 exact mJ 2 [] (ih (_,_,_) e4)
 refine mE 0 [] e4 (fun fits2=>⟨[(3,.ptr 1 0),(4,iP 0),(5,.ptr 2 0),(6,.ptr 3 0),(7,.fn 65 [.ptr 1 0]),(9,oI types),(17,bP true),(18,bP fits2),(20,.ptr 4 0),(119,hO s.ops),(120,iP (s.ops.length:Int)),(121,iP v121)],[[hO s.ops,.vmp (Oo s.names)],kX e,[iP 0,tP ⟨#[]⟩,.sl [] .own,iP 0,.fno (MG Do.nil) (Lh Do.nil) (Lw Do.nil)],[iP 0,iP 0],kO x]⟩) ?_ fun y7 e8 F=>?_
 rintro fits2 e4
 obtain⟨e9,X,e4⟩:=Ab e4
 refine cD 1 [(3,fk (OK _ _ _ _ X))] e4 (fun Y e4=>?_) fun Y e4=>?_
 cases e4
 cases h
 exact rt 1 [] d
 exact mJ 1 [] (ih (_,_,_) e4)
 rcases Aj e8 with⟨q,e8⟩|⟨q,e8⟩
 exact mJ 1 [(1,fo q)] (F _ (oj e8))
 exact mJ 1 [(1,fo q),(2,fl An x.args),(1,fl An types)] (F _ (oj e8))
 rcases Aj e7 with⟨b,e7⟩|⟨b,e7⟩
 exact mJ 1 [(5,fo b)] (p _ (oj e7))
 rcases Aj e7 with⟨g,e7⟩|⟨g,e7⟩
 exact mJ 1 [(5,fo b),(3,fo g)] (p _ (oj e7))
 exact mJ 1 [(5,fo b),(3,fo g)] (p _ (oj e7))
 exact mJ 1 [] (O _ (oj e4))
 refine lR 1 [] (A:=((List Int)×Int)) (fun n (types1,v52)=>Bv n e s types1 v52) (fun (types1,v52)=>⟨[(2,.ptr 0 0),(3,.ptr 1 0),(4,iP 0),(5,.ptr 2 0),(6,.ptr 3 0),(7,.fn 65 [.ptr 1 0]),(9,oI types1),(50,hX e.Kids),(51,iP (e.Kids.length:Int)),(52,iP v52)],[[hO s.ops,.vmp (Oo s.names)],kX e,[iP 0,tP ⟨#[]⟩,.sl [] .own,iP 0,.fno (MG Do.nil) (Lh Do.nil) (Lw Do.nil)],[iP 0,iP 0]]⟩) ([],0) hn e2 (fun _=>rfl) ?_
 rintro n ⟨types1,v52⟩ hn e2 Z
 replace e2:=(Bv.eq_2 ..).symm.trans e2
 refine cD 1 [] e2 (fun G e2=>?_) fun G e2=>?_
 obtain⟨x1,hx1,e2⟩:=Ab e2
 obtain⟨f7,hf7,e2⟩:=Ab e2
 refine cD 4 [(0,fi AZ hx1),(5,fk (ih_statute_solver_find _ hn _ _ _ hf7))] e2 (fun H e2=>?_) fun H e2=>?_
 cases e2
 cases h
 exact rt 1 [] d
 obtain⟨l,hl,e2⟩:=Ab e2
 obtain⟨l1,hl1,e2⟩:=Ab e2
 exact mJ 2 [(2,fB An hl),(0,fa An hl1)] (Z (_,_) e2)
 exact mJ 1 [] (J _ (oj e2))
 rcases Aj e1 with⟨a,e1⟩|⟨a,e1⟩
 exact mJ 1 [(3,fo a)] (hJ _ (oj e1))
 rcases Aj e1 with⟨c,e1⟩|⟨c,e1⟩
 exact mJ 1 [(3,fo a),(4,fo c)] (hJ _ (oj e1))
 rcases Aj e1 with⟨i,e1⟩|⟨i,e1⟩
 exact mJ 1 [(3,fo a),(4,fo c),(2,fo i),(2,fl AZ e.Kids)] (hJ _ (oj e1))
 exact mJ 1 [(3,fo a),(4,fo c),(2,fo i)] (hJ _ (oj e1))
theorem GX:∀ n:Nat,(∀ m,m<=n->∀ (s:Bp) (e:Af) (r:(Int×Ac×Am)),A6 m s e=some r->BZ Tryz.prog 40 [.agg [hO s.ops,.vmp (Oo s.names)],.agg (kX e)] (.tup [iP r.1,.agg [iP r.2.1.op,tP r.2.1.name,hI r.2.1.args,iP r.2.1.kind,.fno (MG r.2.1.do_) (Lh r.2.1.do_) (Lw r.2.1.do_)],.agg [iP r.2.2.At,iP r.2.2.E]]))
 |0=>(fun m hm s e r h=>by
  obtain rfl:m=0:=by omega
  exact absurd h (by simp [A6]))
 |n+1=>by
  have ih:=GX n
  exact fun m hm s e r h=>by
   cases m with
   |zero=>exact absurd h (by simp [A6])
   |succ m=>exact Kv n (ih) m (by omega) s e _ h
theorem HZ (n:Nat)(s:Bp)(e:Af)(r:(Int×Ac×Am))(h:A6 n s e=some r):BZ Tryz.prog 40 [.agg [hO s.ops,.vmp (Oo s.names)],.agg (kX e)] (.tup [iP r.1,.agg [iP r.2.1.op,tP r.2.1.name,hI r.2.1.args,iP r.2.1.kind,.fno (MG r.2.1.do_) (Lh r.2.1.do_) (Lw r.2.1.do_)],.agg [iP r.2.2.At,iP r.2.2.E]]) :=
 (GX n) n (ä _) s e r h
end Go.Proofs.YtehfpameijkafaaGreatDoor
namespace Go.Proofs.YtehfpameijkafaaGreatDoor
open Go.RowKit Go.Q Go.Vl Go.Sp
set_option maxRecDepth 100000
set_option linter.unusedSimpArgs false
set_option maxHeartbeats 4000000
set_option linter.unusedVariables false
theorem Acv (n:Nat)(d:Do)(m:Ah)(x:List Int)(r:Int)(h:HA n d m x=some r):BZ Tryz.prog (Lh d) ([.agg (kM m),hI x]++Lw d) (iP r):=by
 unfold HA at h
 split at h
 . exact Ls m x r h
 . exact Lr m x r h
 . exact Lq m x r h
 . exact Lp m x r h
 . exact Lo m x r h
 . exact Ln m x r h
 . exact Lm m x r h
 . exact Ll m x r h
 . exact Lk m x r h
 . exact K8 m x r h
 . exact K7 m x r h
 . exact K6 m x r h
 . exact Ky m x r h
 . exact Kx m x r h
 . exact Kw m x r h
 . exact K5 n _ m x r h
 . exact IZ m x r h
 . exact IY m x r h
 . exact IX m x r h
 . exact IW m x r h
 . exact IV m x r h
 . exact IU m x r h
 . cases h
theorem ZG {n:Nat}{d:Do}{m:Ah}{x:List Int}{r:Int}(h:HA n d m x=some r):JB Tryz.prog (Lh d)=true:=by
 unfold HA at h
 split at h
 . exact (by kernel_rfl)
 . exact (by kernel_rfl)
 . exact (by kernel_rfl)
 . exact (by kernel_rfl)
 . exact (by kernel_rfl)
 . exact (by kernel_rfl)
 . exact (by kernel_rfl)
 . exact (by kernel_rfl)
 . exact (by kernel_rfl)
 . exact (by kernel_rfl)
 . exact (by kernel_rfl)
 . exact (by kernel_rfl)
 . exact (by kernel_rfl)
 . exact (by kernel_rfl)
 . exact (by kernel_rfl)
 . exact (by kernel_rfl)
 . exact (by kernel_rfl)
 . exact (by kernel_rfl)
 . exact (by kernel_rfl)
 . exact (by kernel_rfl)
 . exact (by kernel_rfl)
 . exact (by kernel_rfl)
 . cases h
theorem JX (n0:Nat)
 (ih_statute_solver_value:∀ m,m<=n0->∀ (s:Bp) (e:Af) (m_:Ah) (r:Int),A5 m s e m_=some r->BZ Tryz.prog 42 [.agg [hO s.ops,.vmp (Oo s.names)],.agg (kX e),.agg (kM m_)] (iP r))
 (n:Nat) (hn:n<=n0) (s:Bp) (e:Af) (m_:Ah) (r:Int) (h:A5 (n+1) s e m_=some r):BZ Tryz.prog 42 [.agg [hO s.ops,.vmp (Oo s.names)],.agg (kX e),.agg (kM m_)] (iP r):=by
 replace h:=(A5.eq_2 ..).symm.trans h
 refine vP ⟨[0,1,2,3,4,5,6,7,9,11,14,15,19,33,34,35,36],[]⟩ Tryz.func42 follows fun Q b=>?_
 refine cD 4 [] h (fun c h=>?_) fun c h=>?_
 cases h
 exact rt 1 [] b
 refine cD 1 [] h (fun g h=>?_) fun g h=>?_
 cases h
 exact rt 1 [(14,fLS [(⟨#[121,101,97,114]⟩,365),(⟨#[115,116,111,114,101,100]⟩,m_.d.Stored),(⟨#[110,101,118,101,114]⟩,41667),(⟨#[111,119,110,101,114]⟩,m_.d.Owner)] e.S)] b
 refine mE 2 [(3,fl AZ e.Kids)] h (fun x=>⟨[(3,.ptr 0 0),(4,.ptr 1 0),(5,.ptr 2 0),(6,iP 0),(7,oI x)],[[hO s.ops,.vmp (Oo s.names)],kX e,kM m_]⟩) ?_ fun y e1 hJ=>?_
 rintro x h
 obtain⟨f,o,h⟩:=Ab h
 obtain⟨d,p,h⟩:=Ab h
 obtain⟨r1,a,h⟩:=Ab h
 cases h
 exact rt 2 [(2,fk (HZ _ _ _ _ o)),(10,ff p),(2,fv (ZG a) (Acv _ _ _ _ _ a))] b
 refine lR 1 [] (A:=((List Int)×Int)) (fun n (x1,v35)=>Bg n e s m_ x1 v35) (fun (x1,v35)=>⟨[(3,.ptr 0 0),(4,.ptr 1 0),(5,.ptr 2 0),(6,iP 0),(7,oI x1),(33,hX e.Kids),(34,iP (e.Kids.length:Int)),(35,iP v35)],[[hO s.ops,.vmp (Oo s.names)],kX e,kM m_]⟩) ([],0) hn e1 (fun _=>rfl) ?_
 rintro n ⟨x1,v35⟩ hn e1 ih
 replace e1:=(Bg.eq_2 ..).symm.trans e1
 refine cD 1 [] e1 (fun q e1=>?_) fun q e1=>?_
 obtain⟨x2,i,e1⟩:=Ab e1
 obtain⟨v_,j,e1⟩:=Ab e1
 obtain⟨l,t,e1⟩:=Ab e1
 obtain⟨l1,k,e1⟩:=Ab e1
 exact mJ 4 [(0,fi AZ i),(7,fk (ih_statute_solver_value _ hn _ _ _ _ j)),(0,fB An t),(0,fa An k)] (ih (_,_) e1)
 exact mJ 1 [] (hJ _ (oj e1))
theorem G9:∀ n:Nat,(∀ m,m<=n->∀ (s:Bp) (e:Af) (m_:Ah) (r:Int),A5 m s e m_=some r->BZ Tryz.prog 42 [.agg [hO s.ops,.vmp (Oo s.names)],.agg (kX e),.agg (kM m_)] (iP r))
 |0=>(fun m hm s e m_ r h=>by
  obtain rfl:m=0:=by omega
  exact absurd h (by simp [A5]))
 |n+1=>by
  have ih:=G9 n
  exact fun m hm s e m_ r h=>by
   cases m with
   |zero=>exact absurd h (by simp [A5])
   |succ m=>exact JX n (ih) m (by omega) s e m_ _ h
theorem Lj (n:Nat)(s:Bp)(e:Af)(m_:Ah)(r:Int)(h:A5 n s e m_=some r):BZ Tryz.prog 42 [.agg [hO s.ops,.vmp (Oo s.names)],.agg (kX e),.agg (kM m_)] (iP r) :=
 (G9 n) n (ä _) s e m_ r h
end Go.Proofs.YtehfpameijkafaaGreatDoor
namespace Go.Proofs.YtehfpameijkafaaGreatDoor
open Go.RowKit Go.Q Go.Vl Go.Sp
theorem CB (e:Af)(r:Int×Ac×Am)(h:Mn e=some r):BZ Tryz.prog 40 [.agg [Bj,D3],.agg [iP e.Op,iP e.N,tP e.S,hP e.Kids Bd,iP e.At]] (.tup [iP r.1,.agg [iP r.2.1.op,tP r.2.1.name,hP r.2.1.args BH,iP r.2.1.kind,.fno (MG r.2.1.do_) (Lh r.2.1.do_) (Lw r.2.1.do_)],.agg [iP r.2.2.At,iP r.2.2.E]]):=by
 intro σ
 unfold Mn at h
 split at h
 . rename_i hs
   rw [<- Ag h]
   refine VC.dis fun i=>?_
   obtain⟨n,a⟩:=(Uu (SS i) e hs).get
   exact HZ n ⟨opsOf (SU i),BX⟩ e _ a σ
 . cases h
theorem UX (e:Af)(m:Ah)(r:Int)(h:TC e m=some r):BZ Tryz.prog 42 [.agg [Bj,D3],.agg [iP e.Op,iP e.N,tP e.S,hP e.Kids Bd,iP e.At],.agg [hP m.d.Facts DB,iP m.d.Stored,iP m.d.Owner,iP m.known]] (iP r):=by
 intro σ
 unfold TC at h
 split at h
 . rename_i hs
   rw [<- Ag h]
   refine VC.dis fun i=>?_
   obtain⟨n,a⟩:=(QB (SS i) m (Xi hs.2.2) e hs.1 hs.2.1).1.get
   exact Lj n ⟨opsOf (SU i),BX⟩ e m _ a σ
 . cases h
end Go.Proofs.YtehfpameijkafaaGreatDoor
namespace Go.Proofs.YtehfpameijkafaaGreatDoor
open Go.RowKit Go.Q Go.Vl Go.Sp
set_option maxRecDepth 100000
set_option linter.unusedSimpArgs false
set_option maxHeartbeats 4000000
set_option linter.unusedVariables false
theorem L9 (n:Nat)(d:Ai)(known:Int)(r:Int)(h:DI n d known=some r):BZ Tryz.prog 41 [.agg (kD d),iP known] (iP r):=by
 unfold DI at h
 refine vP ⟨[0,1,2,4,6,10,12,13,14,15,55,82],[]⟩ Tryz.func41 follows fun Q v=>?_
 refine cD 2 [(4,fl Bz d.Facts)] h (fun t h=>?_) fun t h=>?_
 cases h
 exact rt 1 [] v
 refine mI 1 [(2,fl Bz d.Facts)] h (fun _=>⟨[(1,iP known),(2,.ptr 0 0),(4,iP 0)],[kD d]⟩) ?_ fun y e h hJ=>?_
 rintro _ h
 refine mE 0 [] h (fun v82=>⟨[(4,iP 0),(82,bP v82)],[kD d]⟩) ?_ fun y1 e1 l=>?_
 rintro v82 h
 refine cD 0 [] h (fun z h=>?_) fun z h=>?_
 cases h
 exact rt 1 [] v
 cases h
 exact rt 1 [] v
 rcases Aj e1 with⟨i,e1⟩|⟨i,e1⟩
 exact mJ 1 [(3,fo i)] (l _ (oj e1))
 rcases Aj e1 with⟨m,e1⟩|⟨m,e1⟩
 exact mJ 1 [(3,fo i),(4,fo m)] (l _ (oj e1))
 rcases Aj e1 with⟨o,e1⟩|⟨o,e1⟩
 exact mJ 1 [(3,fo i),(4,fo m),(3,fo o)] (l _ (oj e1))
 rcases Aj e1 with⟨q,e1⟩|⟨q,e1⟩
 exact mJ 1 [(3,fo i),(4,fo m),(3,fo o),(3,fo q)] (l _ (oj e1))
 rcases Aj e1 with⟨s,e1⟩|⟨s,e1⟩
 exact mJ 1 [(3,fo i),(4,fo m),(3,fo o),(3,fo q),(4,fo s)] (l _ (oj e1))
 exact mJ 1 [(3,fo i),(4,fo m),(3,fo o),(3,fo q),(4,fo s)] (l _ (oj e1))
 refine lF 1 [] (A:=Int) (fun n v14=>B7 n d v14) (fun v14=>⟨[(1,iP known),(2,.ptr 0 0),(4,iP 0),(12,hZ d.Facts),(13,iP (d.Facts.length:Int)),(14,iP v14)],[kD d]⟩) 0 e (fun _=>rfl) ?_
 rintro n v14 e ih
 replace e:=(B7.eq_2 ..).symm.trans e
 refine cD 1 [] e (fun u e=>?_) fun u e=>?_
 obtain⟨x,B,e⟩:=Ab e
 refine mE 2 [(0,fi Bz B)] e (fun v55=>⟨[(1,iP known),(2,.ptr 0 0),(4,iP 0),(12,hZ d.Facts),(13,iP (d.Facts.length:Int)),(14,iP v14),(55,bP v55)],[kD d,kZ x]⟩) ?_ fun y2 e2 c=>?_
 rintro v55 e
 refine cD 0 [] e (fun w e=>?_) fun w e=>?_
 cases e
 cases h
 exact rt 1 [] v
 exact mJ 1 [] (ih _ e)
 rcases Aj e2 with⟨b,e2⟩|⟨b,e2⟩
 exact mJ 1 [(3,fo b)] (c _ (oj e2))
 rcases Aj e2 with⟨f,e2⟩|⟨f,e2⟩
 exact mJ 1 [(3,fo b),(4,fo f)] (c _ (oj e2))
 rcases Aj e2 with⟨j,e2⟩|⟨j,e2⟩
 exact mJ 1 [(3,fo b),(4,fo f),(4,fo j)] (c _ (oj e2))
 rcases Aj e2 with⟨a,e2⟩|⟨a,e2⟩
 exact mJ 1 [(3,fo b),(4,fo f),(4,fo j),(4,fo a)] (c _ (oj e2))
 rcases Aj e2 with⟨g,e2⟩|⟨g,e2⟩
 exact mJ 1 [(3,fo b),(4,fo f),(4,fo j),(4,fo a),(4,fo g)] (c _ (oj e2))
 rcases Aj e2 with⟨k,e2⟩|⟨k,e2⟩
 exact mJ 1 [(3,fo b),(4,fo f),(4,fo j),(4,fo a),(4,fo g),(4,fo k)] (c _ (oj e2))
 rcases Aj e2 with⟨p,e2⟩|⟨p,e2⟩
 exact mJ 1 [(3,fo b),(4,fo f),(4,fo j),(4,fo a),(4,fo g),(4,fo k),(4,fo p)] (c _ (oj e2))
 exact mJ 1 [(3,fo b),(4,fo f),(4,fo j),(4,fo a),(4,fo g),(4,fo k),(4,fo p)] (c _ (oj e2))
 exact mJ 1 [] (hJ _ (oj e))
theorem NR (c:Int)(r:Bool)(h:EH c=some r):BZ Tryz.prog 63 [uP c] (bP r):=by
 unfold EH at h
 refine vP ⟨[0,2],[]⟩ Tryz.func63 follows fun Q s=>?_
 refine mE 1 [] h (fun v2=>⟨[(2,bP v2)],[]⟩) ?_ fun y e hJ=>?_
 rintro v2 h
 cases h
 exact rt 0 [] s
 rcases Aj e with⟨f,e⟩|⟨f,e⟩
 rcases Aj e with⟨a,e⟩|⟨a,e⟩
 exact mJ 1 [(2,fo f),(3,fo a)] (hJ _ (oj e))
 rcases Aj e with⟨b,e⟩|⟨b,e⟩
 rcases Aj e with⟨j,e⟩|⟨j,e⟩
 exact mJ 1 [(2,fo f),(3,fo a),(2,fo b),(4,fo j)] (hJ _ (oj e))
 rcases Aj e with⟨n,e⟩|⟨n,e⟩
 exact mJ 1 [(2,fo f),(3,fo a),(2,fo b),(4,fo j),(3,fo n)] (hJ _ (oj e))
 rcases Aj e with⟨p,e⟩|⟨p,e⟩
 exact mJ 1 [(2,fo f),(3,fo a),(2,fo b),(4,fo j),(3,fo n),(2,fo p)] (hJ _ (oj e))
 exact mJ 1 [(2,fo f),(3,fo a),(2,fo b),(4,fo j),(3,fo n),(2,fo p)] (hJ _ (oj e))
 rcases Aj e with⟨o,e⟩|⟨o,e⟩
 exact mJ 1 [(2,fo f),(3,fo a),(2,fo b),(8,fo o)] (hJ _ (oj e))
 rcases Aj e with⟨q,e⟩|⟨q,e⟩
 exact mJ 1 [(2,fo f),(3,fo a),(2,fo b),(8,fo o),(2,fo q)] (hJ _ (oj e))
 exact mJ 1 [(2,fo f),(3,fo a),(2,fo b),(8,fo o),(2,fo q)] (hJ _ (oj e))
 rcases Aj e with⟨d,e⟩|⟨d,e⟩
 rcases Aj e with⟨k,e⟩|⟨k,e⟩
 exact mJ 1 [(2,fo f),(6,fo d),(4,fo k)] (hJ _ (oj e))
 rcases Aj e with⟨g,e⟩|⟨g,e⟩
 exact mJ 1 [(2,fo f),(6,fo d),(4,fo k),(3,fo g)] (hJ _ (oj e))
 rcases Aj e with⟨l,e⟩|⟨l,e⟩
 exact mJ 1 [(2,fo f),(6,fo d),(4,fo k),(3,fo g),(2,fo l)] (hJ _ (oj e))
 exact mJ 1 [(2,fo f),(6,fo d),(4,fo k),(3,fo g),(2,fo l)] (hJ _ (oj e))
 rcases Aj e with⟨i,e⟩|⟨i,e⟩
 exact mJ 1 [(2,fo f),(6,fo d),(8,fo i)] (hJ _ (oj e))
 rcases Aj e with⟨m,e⟩|⟨m,e⟩
 exact mJ 1 [(2,fo f),(6,fo d),(8,fo i),(2,fo m)] (hJ _ (oj e))
 exact mJ 1 [(2,fo f),(6,fo d),(8,fo i),(2,fo m)] (hJ _ (oj e))
theorem JE (n:Nat)(s:(List Int))(r:Int)(h:Dw n s=some r):BZ Tryz.prog 111 [hP s JO,.fno true 63 []] (iP r):=by
 unfold Dw at h
 refine vP ⟨[0,1,4,5,7,8,9,16],[]⟩ Tryz.func111 follows fun Q b=>?_
 refine mI 2 [(2,fl Py s)] h (fun _=>⟨[(4,iP 0)],[]⟩) ?_ fun y e h hJ=>?_
 rintro _ h
 cases h
 exact rt 1 [] b
 refine lF 1 [] (A:=Int) (fun n v8=>AU n s v8) (fun v8=>⟨[(0,hP s JO),(1,.fno true 63 []),(4,iP 0),(7,iP (s.length:Int)),(8,iP v8)],[]⟩) 0 e (fun _=>rfl) ?_
 rintro n v8 e ih
 replace e:=(AU.eq_2 ..).symm.trans e
 refine cD 1 [] e (fun a e=>?_) fun a e=>?_
 obtain⟨x,c,e⟩:=Ab e
 obtain⟨i,d,e⟩:=Ab e
 refine cD 3 [(5,fi Py c),(1,fk (NR _ _ d))] e (fun f e=>?_) fun f e=>?_
 cases e
 cases h
 exact rt 1 [] b
 exact mJ 1 [] (ih _ e)
 exact mJ 1 [] (hJ _ (oj e))
theorem Jb (n:Nat)(s:(List Int))(r:Bool)(h:Cn n s=some r):BZ Tryz.prog 62 [hP s JO,.fno true 63 []] (bP r):=by
 unfold Cn at h
 refine vP ⟨[0,1,4],[]⟩ Tryz.func62 follows fun Q a=>?_
 obtain⟨i,b,h⟩:=Ab h
 cases h
 exact rt 2 [(3,fk (JE _ _ _ b))] a
theorem PQ (n:Nat)(s:Æ)(r:Bool)(h:FZ n s=some r):BZ Tryz.prog 36 [tP s] (bP r):=by
 unfold FZ at h
 refine vP ⟨[0,2,19],[(3,[9996,1])]⟩ Tryz.func36 follows fun Q j=>?_
 refine mE 1 [] h (fun v19=>⟨[(0,tP s),(2,bP false),(19,bP v19)],[]⟩) ?_ fun y e hJ=>?_
 rintro v19 h
 refine cD 0 [] h (fun i h=>?_) fun i h=>?_
 cases h
 exact rt 1 [] j
 obtain⟨b,hb,h⟩:=Ab h
 obtain⟨c,k,h⟩:=Ab h
 refine xV 1 [.no] (hP b JO) [.call (bP c),.no,.no] ⟨[(2,bP (!c))],[]⟩ (And.intro True.intro (And.intro (Afj hb (fun _=>rfl)) (And.intro (Jb n b c k) True.intro))) ?_
 cases h
 exact rt 0 [] j
 rcases Aj e with⟨a,e⟩|⟨a,e⟩
 exact mJ 1 [(2,fo a)] (hJ _ (oj e))
 rcases Aj e with⟨f,e⟩|⟨f,e⟩
 exact mJ 1 [(2,fo a),(4,fo f)] (hJ _ (oj e))
 obtain⟨c1,d,e⟩:=Ab e
 rcases Aj e with⟨g,e⟩|⟨g,e⟩
 exact mJ 1 [(2,fo a),(4,fo f),(1,fb d),(1,fo g),(1,fb d)] (hJ _ (oj e))
 exact mJ 1 [(2,fo a),(4,fo f),(1,fb d),(1,fo g)] (hJ _ (oj e))
theorem MN (c:Æ)(c1:Int)(c2:Int)(c3:Int)(c4:Int)(c5:Int)(c6:Æ)(c7:(List Af))(c8:Int)(c9:Int)(c10:Int)(c11:Æ)(c12:(List Af))(c13:Int)(c14:Int)(c15:Int)(c16:Æ)(c17:(List Af))(c18:Int)(c19:Int)(x:Aa)(r:Bool)(h:Fh c c1 c2 c3 c4 c5 c6 c7 c8 c9 c10 c11 c12 c13 c14 c15 c16 c17 c18 c19 x=some r):JW Tryz.prog 38 [.agg (kC x),.ptr 1 0] [[Bj,D3],[tP c,iP c1,iP c2,iP c3,iP c4,iP c5,tP c6,hX c7,iP c8,iP c9,iP c10,tP c11,hX c12,iP c13,iP c14,iP c15,tP c16,hX c17,iP c18,iP c19]] (.ret (bP r)) [[Bj,D3],[tP c,iP c1,iP c2,iP c3,iP c4,iP c5,tP c6,hX c7,iP c8,iP c9,iP c10,tP c11,hX c12,iP c13,iP c14,iP c15,tP c16,hX c17,iP c18,iP c19]]:=by
 unfold Fh at h
 refine vS ⟨[0,1,2,3],[]⟩ Tryz.func38 follows fun Q a=>?_
 cases h
 exact rt 2 [] a
theorem Ja (n:Nat)(c:Æ)(c1:Int)(c2:Int)(c3:Int)(c4:Int)(c5:Int)(c6:Æ)(c7:(List Af))(c8:Int)(c9:Int)(c10:Int)(c11:Æ)(c12:(List Af))(c13:Int)(c14:Int)(c15:Int)(c16:Æ)(c17:(List Af))(c18:Int)(c19:Int)(s:(List Aa))(r:Int)(h:CR n c c1 c2 c3 c4 c5 c6 c7 c8 c9 c10 c11 c12 c13 c14 c15 c16 c17 c18 c19 s=some r):JW Tryz.prog 64 [hC s,.fn 38 [.ptr 1 0]] [[Bj,D3],[tP c,iP c1,iP c2,iP c3,iP c4,iP c5,tP c6,hX c7,iP c8,iP c9,iP c10,tP c11,hX c12,iP c13,iP c14,iP c15,tP c16,hX c17,iP c18,iP c19]] (.ret (iP r)) [[Bj,D3],[tP c,iP c1,iP c2,iP c3,iP c4,iP c5,tP c6,hX c7,iP c8,iP c9,iP c10,tP c11,hX c12,iP c13,iP c14,iP c15,tP c16,hX c17,iP c18,iP c19]]:=by
 unfold CR at h
 refine vS ⟨[0,1,4,5,7,8,9,16],[]⟩ Tryz.func64 follows fun Q d=>?_
 refine mI 2 [(2,fl As s)] h (fun _=>⟨[(4,iP 0)],[[Bj,D3],[tP c,iP c1,iP c2,iP c3,iP c4,iP c5,tP c6,hX c7,iP c8,iP c9,iP c10,tP c11,hX c12,iP c13,iP c14,iP c15,tP c16,hX c17,iP c18,iP c19]]⟩) ?_ fun y e h hJ=>?_
 rintro _ h
 cases h
 exact rt 1 [] d
 refine lF 1 [] (A:=Int) (fun n v8=>AJ n s c c1 c2 c3 c4 c5 c6 c7 c8 c9 c10 c11 c12 c13 c14 c15 c16 c17 c18 c19 v8) (fun v8=>⟨[(0,hC s),(1,.fn 38 [.ptr 1 0]),(4,iP 0),(7,iP (s.length:Int)),(8,iP v8)],[[Bj,D3],[tP c,iP c1,iP c2,iP c3,iP c4,iP c5,tP c6,hX c7,iP c8,iP c9,iP c10,tP c11,hX c12,iP c13,iP c14,iP c15,tP c16,hX c17,iP c18,iP c19]]⟩) 0 e (fun _=>rfl) ?_
 rintro n v8 e ih
 replace e:=(AJ.eq_2 ..).symm.trans e
 refine cD 1 [] e (fun b e=>?_) fun b e=>?_
 obtain⟨x,f,e⟩:=Ab e
 obtain⟨c20,a,e⟩:=Ab e
 refine cD 3 [(5,fi As f),(1,fs (MN _ _ _ _ _ _ _ _ _ _ _ _ _ _ _ _ _ _ _ _ _ _ a))] e (fun g e=>?_) fun g e=>?_
 cases e
 cases h
 exact rt 1 [] d
 exact mJ 1 [] (ih _ e)
 exact mJ 1 [] (hJ _ (oj e))
theorem Ia (n:Nat)(c:Æ)(c1:Int)(c2:Int)(c3:Int)(c4:Int)(c5:Int)(c6:Æ)(c7:(List Af))(c8:Int)(c9:Int)(c10:Int)(c11:Æ)(c12:(List Af))(c13:Int)(c14:Int)(c15:Int)(c16:Æ)(c17:(List Af))(c18:Int)(c19:Int)(s:(List Aa))(r:Bool)(h:BN n c c1 c2 c3 c4 c5 c6 c7 c8 c9 c10 c11 c12 c13 c14 c15 c16 c17 c18 c19 s=some r):JW Tryz.prog 37 [hC s,.fn 38 [.ptr 1 0]] [[Bj,D3],[tP c,iP c1,iP c2,iP c3,iP c4,iP c5,tP c6,hX c7,iP c8,iP c9,iP c10,tP c11,hX c12,iP c13,iP c14,iP c15,tP c16,hX c17,iP c18,iP c19]] (.ret (bP r)) [[Bj,D3],[tP c,iP c1,iP c2,iP c3,iP c4,iP c5,tP c6,hX c7,iP c8,iP c9,iP c10,tP c11,hX c12,iP c13,iP c14,iP c15,tP c16,hX c17,iP c18,iP c19]]:=by
 unfold BN at h
 refine vS ⟨[0,1,4],[]⟩ Tryz.func37 follows fun Q b=>?_
 obtain⟨c20,a,h⟩:=Ab h
 cases h
 exact rt 2 [(3,fs (Ja _ _ _ _ _ _ _ _ _ _ _ _ _ _ _ _ _ _ _ _ _ _ _ a))] b
theorem NP (c:Æ)(c1:Int)(c2:Int)(c3:Int)(c4:Int)(c5:Int)(c6:Æ)(c7:(List Af))(c8:Int)(c9:Int)(c10:Int)(c11:Æ)(c12:(List Af))(c13:Int)(c14:Int)(c15:Int)(c16:Æ)(c17:(List Af))(c18:Int)(c19:Int)(r:Unit)(h:Gp c c1 c2 c3 c4 c5 c6 c7 c8 c9 c10 c11 c12 c13 c14 c15 c16 c17 c18 c19=some r):JW Tryz.prog 39 [.ptr 1 0] [[Bj,D3],[tP c,iP c1,iP c2,iP c3,iP c4,iP c5,tP c6,hX c7,iP c8,iP c9,iP c10,tP c11,hX c12,iP c13,iP c14,iP c15,tP c16,hX c17,iP c18,iP c19]] (.ret (.tup [.agg [.ptr 1 4,.ptr 1 9,.ptr 1 14],.agg [iP 2,iP 2,iP 3]])) [[Bj,D3],[tP c,iP c1,iP c2,iP c3,iP c4,iP c5,tP c6,hX c7,iP c8,iP c9,iP c10,tP c11,hX c12,iP c13,iP c14,iP c15,tP c16,hX c17,iP c18,iP c19]]:=by
 unfold Gp at h
 refine vS ⟨[0,2,3],[(1,[9999,0,0,1,2,3,4,5,6,7,8,9,10,11,12])]⟩ Tryz.func39 follows fun Q a=>?_
 cases h
 exact rt 2 [] a
theorem LB (n:Nat)(l:(List Aa))(r:Int)(h:Fw n l=some r):BZ Tryz.prog 20 [hC l] (iP r):=by
 unfold Fw at h
 refine vP ⟨[0,2,3,4,5,6,7,8,9,10,11,13,16,18,19,20,21,28,33,39,48,93,94,95,109,116],[(20,[9995])]⟩ Tryz.func20 follows fun Q q=>?_
 refine cD 2 [(2,fl As l)] h (fun D h=>?_) fun D h=>?_
 cases h
 exact rt 1 [] q
 obtain⟨u,hu,h⟩:=Ab h
 refine mI 2 [(0,fk QA),(3,fl As l)] h (fun _=>⟨[(2,iP 0)],[[Bj,D3]]⟩) ?_ fun y e h hJ=>?_
 rintro _ h
 cases h
 exact rt 1 [] q
 refine lF 1 [] (A:=Int) (fun n v20=>CX n l v20) (fun v20=>⟨[(0,hC l),(2,iP 0),(3,.ptr 0 0),(18,hC l),(19,iP (l.length:Int)),(20,iP v20)],[[Bj,D3]]⟩) 0 e (fun _=>rfl) ?_
 rintro n v20 e ih
 replace e:=(CX.eq_2 ..).symm.trans e
 refine cD 1 [] e (fun F e=>?_) fun F e=>?_
 obtain⟨x,Z,e⟩:=Ab e
 obtain⟨i,hi,e⟩:=Ab e
 refine cD 5 [(1,fi As Z),(10,fk (PQ _ _ _ hi))] e (fun G e=>?_) fun G e=>?_
 cases e
 cases h
 exact rt 1 [] q
 obtain⟨l1,S,e⟩:=Ab e
 obtain⟨c,hc,e⟩:=Ab e
 refine cD 1 [(2,fsl As S),(1,fs (Ia _ _ _ _ _ _ _ _ _ _ _ _ _ _ _ _ _ _ _ _ _ _ _ hc))] e (fun H e=>?_) fun H e=>?_
 cases e
 cases h
 exact rt 1 [] q
 refine mE 0 [] e (fun v39=>⟨[(0,hC l),(2,iP 0),(3,.ptr 0 0),(5,.ptr 1 0),(6,bP (x.Kind == 3)),(18,hC l),(19,iP (l.length:Int)),(20,iP v20),(39,bP v39)],[[Bj,D3],kC x]⟩) ?_ fun y1 e1 I=>?_
 rintro v39 e
 refine cD 0 [] e (fun J e=>?_) fun J e=>?_
 cases e
 cases h
 exact rt 1 [] q
 refine mE 0 [] e (fun v48=>⟨[(0,hC l),(2,iP 0),(3,.ptr 0 0),(5,.ptr 1 0),(18,hC l),(19,iP (l.length:Int)),(20,iP v20),(48,bP v48)],[[Bj,D3],kC x]⟩) ?_ fun y2 e2 k=>?_
 rintro v48 e
 refine cD 0 [] e (fun K e=>?_) fun K e=>?_
 cases e
 cases h
 exact rt 1 [] q
 obtain⟨w,hw,e⟩:=Ab e
 refine mI 2 [(0,fs (NP _ _ _ _ _ _ _ _ _ _ _ _ _ _ _ _ _ _ _ _ _ hw))] e (fun _=>⟨[(0,hC l),(2,iP 0),(3,.ptr 0 0),(18,hC l),(19,iP (l.length:Int)),(20,iP v20)],[[Bj,D3],kC x,[.ptr 1 4,.ptr 1 9,.ptr 1 14],[iP 2,iP 2,iP 3]]⟩) ?_ fun y3 e3 e T=>?_
 rintro _ e
 exact mJ 1 [] (ih _ e)
 refine lF 1 [] (A:=Int) (fun n v94=>AB n x v94) (fun v94=>⟨[(0,hC l),(2,iP 0),(3,.ptr 0 0),(8,.ptr 3 0),(18,hC l),(19,iP (l.length:Int)),(20,iP v20),(93,.agg [.ptr 1 4,.ptr 1 9,.ptr 1 14]),(94,iP v94)],[[Bj,D3],kC x,[.ptr 1 4,.ptr 1 9,.ptr 1 14],[iP 2,iP 2,iP 3]]⟩) 0 e3 (fun _=>rfl) ?_
 rintro n v94 e3 C
 replace e3:=(AB.eq_2 ..).symm.trans e3
 replace e3:=Aj e3
 rcases e3 with⟨L,e3⟩|⟨L,e3⟩
 obtain rfl:=Pp L
 obtain⟨f2,s,e3⟩:=Ab e3
 refine wl 4 [] ?_
 refine xE 6 [.no,.no,.no,.no,.call (.tup [iP f2.1,.agg [iP f2.2.1.op,tP f2.2.1.name,hI f2.2.1.args,iP f2.2.1.kind,.fno (MG f2.2.1.do_) (Lh f2.2.1.do_) (Lw f2.2.1.do_)],.agg [iP f2.2.2.At,iP f2.2.2.E]]),.no,.no,.no,.no,.no,.no,.no,.no,.no] ⟨[(0,hC l),(2,iP 0),(3,.ptr 0 0),(8,.ptr 3 0),(9,iP 0),(11,iP f2.1),(13,.ptr 5 0),(18,hC l),(19,iP (l.length:Int)),(20,iP v20),(93,.agg [.ptr 1 4,.ptr 1 9,.ptr 1 14]),(94,iP 0)],[[Bj,D3],kC x,[.ptr 1 4,.ptr 1 9,.ptr 1 14],[iP 2,iP 2,iP 3],[iP f2.2.1.op,tP f2.2.1.name,hI f2.2.1.args,iP f2.2.1.kind,.fno (MG f2.2.1.do_) (Lh f2.2.1.do_) (Lw f2.2.1.do_)],[iP f2.2.2.At,iP f2.2.2.E]]⟩ (And.intro (And.intro (CB x.From f2 s) (And.intro True.intro (And.intro (And.intro True.intro True.intro) True.intro))) (And.intro (And.intro (And.intro (CB x.From f2 s) True.intro) (And.intro (And.intro (CB x.From f2 s) True.intro) True.intro)) (And.intro (And.intro (And.intro (CB x.From f2 s) (And.intro True.intro True.intro)) (And.intro (And.intro (CB x.From f2 s) True.intro) True.intro)) True.intro))) ?_
 refine cD 1 [] e3 (fun M e3=>?_) fun M e3=>?_
 cases e3
 cases e
 cases h
 exact rt 1 [] q
 refine cD 1 [] e3 (fun U e3=>?_) fun U e3=>?_
 cases e3
 cases e
 cases h
 exact rt 1 [] q
 exact mJ 1 [] (C _ e3)
 replace e3:=Aj e3
 rcases e3 with⟨N,e3⟩|⟨N,e3⟩
 obtain rfl:=Pp N
 obtain⟨f1,t,e3⟩:=Ab e3
 refine wl 4 [] ?_
 refine xE 6 [.no,.no,.no,.no,.call (.tup [iP f1.1,.agg [iP f1.2.1.op,tP f1.2.1.name,hI f1.2.1.args,iP f1.2.1.kind,.fno (MG f1.2.1.do_) (Lh f1.2.1.do_) (Lw f1.2.1.do_)],.agg [iP f1.2.2.At,iP f1.2.2.E]]),.no,.no,.no,.no,.no,.no,.no,.no,.no] ⟨[(0,hC l),(2,iP 0),(3,.ptr 0 0),(8,.ptr 3 0),(9,iP 1),(11,iP f1.1),(13,.ptr 5 0),(18,hC l),(19,iP (l.length:Int)),(20,iP v20),(93,.agg [.ptr 1 4,.ptr 1 9,.ptr 1 14]),(94,iP 1)],[[Bj,D3],kC x,[.ptr 1 4,.ptr 1 9,.ptr 1 14],[iP 2,iP 2,iP 3],[iP f1.2.1.op,tP f1.2.1.name,hI f1.2.1.args,iP f1.2.1.kind,.fno (MG f1.2.1.do_) (Lh f1.2.1.do_) (Lw f1.2.1.do_)],[iP f1.2.2.At,iP f1.2.2.E]]⟩ (And.intro (And.intro (CB x.To f1 t) (And.intro True.intro (And.intro (And.intro True.intro True.intro) True.intro))) (And.intro (And.intro (And.intro (CB x.To f1 t) True.intro) (And.intro (And.intro (CB x.To f1 t) True.intro) True.intro)) (And.intro (And.intro (And.intro (CB x.To f1 t) (And.intro True.intro True.intro)) (And.intro (And.intro (CB x.To f1 t) True.intro) True.intro)) True.intro))) ?_
 refine cD 1 [] e3 (fun V e3=>?_) fun V e3=>?_
 cases e3
 cases e
 cases h
 exact rt 1 [] q
 refine cD 1 [] e3 (fun W e3=>?_) fun W e3=>?_
 cases e3
 cases e
 cases h
 exact rt 1 [] q
 exact mJ 1 [] (C _ e3)
 replace e3:=Aj e3
 rcases e3 with⟨O,e3⟩|⟨O,e3⟩
 obtain rfl:=Pp O
 obtain⟨f,P,e3⟩:=Ab e3
 refine wl 4 [] ?_
 refine xE 6 [.no,.no,.no,.no,.call (.tup [iP f.1,.agg [iP f.2.1.op,tP f.2.1.name,hI f.2.1.args,iP f.2.1.kind,.fno (MG f.2.1.do_) (Lh f.2.1.do_) (Lw f.2.1.do_)],.agg [iP f.2.2.At,iP f.2.2.E]]),.no,.no,.no,.no,.no,.no,.no,.no,.no] ⟨[(0,hC l),(2,iP 0),(3,.ptr 0 0),(8,.ptr 3 0),(9,iP 2),(11,iP f.1),(13,.ptr 5 0),(18,hC l),(19,iP (l.length:Int)),(20,iP v20),(93,.agg [.ptr 1 4,.ptr 1 9,.ptr 1 14]),(94,iP 2)],[[Bj,D3],kC x,[.ptr 1 4,.ptr 1 9,.ptr 1 14],[iP 2,iP 2,iP 3],[iP f.2.1.op,tP f.2.1.name,hI f.2.1.args,iP f.2.1.kind,.fno (MG f.2.1.do_) (Lh f.2.1.do_) (Lw f.2.1.do_)],[iP f.2.2.At,iP f.2.2.E]]⟩ (And.intro (And.intro (CB x.When f P) (And.intro True.intro (And.intro (And.intro True.intro True.intro) True.intro))) (And.intro (And.intro (And.intro (CB x.When f P) True.intro) (And.intro (And.intro (CB x.When f P) True.intro) True.intro)) (And.intro (And.intro (And.intro (CB x.When f P) (And.intro True.intro True.intro)) (And.intro (And.intro (CB x.When f P) True.intro) True.intro)) True.intro))) ?_
 refine cD 1 [] e3 (fun X e3=>?_) fun X e3=>?_
 cases e3
 cases e
 cases h
 exact rt 1 [] q
 refine cD 1 [] e3 (fun Y e3=>?_) fun Y e3=>?_
 cases e3
 cases e
 cases h
 exact rt 1 [] q
 exact mJ 1 [] (C _ e3)
 replace e3:=Aj e3
 rcases e3 with⟨R,e3⟩|⟨R,e3⟩
 obtain rfl:=Pp R
 exact mJ 3 [] (T _ (oj e3))
 cases e3
 rcases Aj e2 with⟨a,e2⟩|⟨a,e2⟩
 exact mJ 1 [(3,fo a)] (k _ (oj e2))
 rcases Aj e2 with⟨b,e2⟩|⟨b,e2⟩
 exact mJ 1 [(3,fo a),(4,fo b)] (k _ (oj e2))
 rcases Aj e2 with⟨d,e2⟩|⟨d,e2⟩
 exact mJ 1 [(3,fo a),(4,fo b),(4,fo d)] (k _ (oj e2))
 rcases Aj e2 with⟨g,e2⟩|⟨g,e2⟩
 exact mJ 1 [(3,fo a),(4,fo b),(4,fo d),(4,fo g)] (k _ (oj e2))
 rcases Aj e2 with⟨j,e2⟩|⟨j,e2⟩
 rcases Aj e2 with⟨m,e2⟩|⟨m,e2⟩
 exact mJ 1 [(3,fo a),(4,fo b),(4,fo d),(4,fo g),(2,fo j),(5,fo m)] (k _ (oj e2))
 rcases Aj e2 with⟨o,e2⟩|⟨o,e2⟩
 rcases Aj e2 with⟨v,e2⟩|⟨v,e2⟩
 exact mJ 1 [(3,fo a),(4,fo b),(4,fo d),(4,fo g),(2,fo j),(5,fo m),(1,fo o),(3,fo v)] (k _ (oj e2))
 exact mJ 1 [(3,fo a),(4,fo b),(4,fo d),(4,fo g),(2,fo j),(5,fo m),(1,fo o),(3,fo v)] (k _ (oj e2))
 exact mJ 1 [(3,fo a),(4,fo b),(4,fo d),(4,fo g),(2,fo j),(5,fo m),(1,fo o)] (k _ (oj e2))
 rcases Aj e2 with⟨p,e2⟩|⟨p,e2⟩
 rcases Aj e2 with⟨z,e2⟩|⟨z,e2⟩
 exact mJ 1 [(3,fo a),(4,fo b),(4,fo d),(4,fo g),(2,fo j),(7,fo p),(3,fo z)] (k _ (oj e2))
 exact mJ 1 [(3,fo a),(4,fo b),(4,fo d),(4,fo g),(2,fo j),(7,fo p),(3,fo z)] (k _ (oj e2))
 exact mJ 1 [(3,fo a),(4,fo b),(4,fo d),(4,fo g),(2,fo j),(7,fo p)] (k _ (oj e2))
 rcases Aj e1 with⟨B,e1⟩|⟨B,e1⟩
 exact mJ 1 [(3,fo B)] (I _ (oj e1))
 exact mJ 1 [(3,fo B)] (I _ (oj e1))
 exact mJ 1 [] (hJ _ (oj e))
theorem Si (n:Nat)(c:Aa)(d:Ai)(known:Int)(r:(Int×Int×Bool×Int))(h:Eu n c d known=some r):BZ Tryz.prog 21 [.agg (kC c),.agg (kD d),iP known] (.tup [iP r.1,iP r.2.1,bP r.2.2.1,iP r.2.2.2]):=by
 unfold Eu at h
 refine vP ⟨[0,1,2,3,4,6,7,8,9,10,11,12,13,18,24],[(7,[9995]),(8,[9999,0,0,1,2,3,5,6,7,8,10,11,12,13,4,9,14,15,16,17,18,19,20,21,22,23,24,25])]⟩ Tryz.func21 follows fun Q f=>?_
 obtain⟨l,o,h⟩:=Ab h
 obtain⟨e,p,h⟩:=Ab h
 refine cD 3 [(7,fB As o),(0,fk (LB _ _ _ p))] h (fun g h=>?_) fun g h=>?_
 cases h
 exact rt 1 [] f
 obtain⟨e1,i,h⟩:=Ab h
 refine cD 2 [(2,fk (L9 _ _ _ _ i))] h (fun j h=>?_) fun j h=>?_
 cases h
 exact rt 1 [] f
 obtain⟨u,q,h⟩:=Ab h
 refine xE 6 [.call (.agg [Bj,D3]),.no,.no,.no,.no,.no,.no,.no] ⟨[(2,iP known),(3,.ptr 0 0),(6,iP 0),(7,iP 0),(8,bP false),(9,iP 0),(12,.ptr 2 0),(13,.ptr 3 0)],[kC c,kD d,[Bj,D3],[hZ d.Facts,iP d.Stored,iP d.Owner,iP known]]⟩ (And.intro (And.intro QA (And.intro True.intro (And.intro (And.intro True.intro True.intro) True.intro))) (And.intro (And.intro (And.intro QA True.intro) (And.intro (And.intro QA True.intro) True.intro)) (And.intro (And.intro (And.intro QA (And.intro True.intro True.intro)) (And.intro (And.intro QA True.intro) True.intro)) True.intro))) ?_
 refine mE 0 [] h (fun (from_,to_,applies)=>⟨[(6,iP from_),(7,iP to_),(8,bP applies),(9,iP 0)],[kC c,kD d,[Bj,D3],[hZ d.Facts,iP d.Stored,iP d.Owner,iP known]]⟩) ?_ fun y e2 hJ=>?_
 rintro⟨from_,to_,applies⟩ h
 cases h
 exact rt 0 [] f
 obtain⟨from_1,a,e2⟩:=Ab e2
 obtain⟨to_1,b,e2⟩:=Ab e2
 rcases Aj e2 with⟨k,e2⟩|⟨k,e2⟩
 obtain⟨v_,m,e2⟩:=Ab e2
 exact mJ 1 [(12,fk (UX _ _ _ a)),(0,fk (UX _ _ _ b)),(0,fo k),(4,fk (UX _ _ _ m))] (hJ _ (oj e2))
 exact mJ 1 [(12,fk (UX _ _ _ a)),(0,fk (UX _ _ _ b)),(0,fo k)] (hJ _ (oj e2))
end Go.Proofs.YtehfpameijkafaaGreatDoor
namespace Go.Proofs.YtehfpameijkafaaGreatDoor
open Go.RowKit Go.Q Go.Vl Go.Sp
set_option maxRecDepth 100000
set_option linter.unusedSimpArgs false
set_option maxHeartbeats 4000000
set_option linter.unusedVariables false
theorem Jy (n:Nat)(l:(List Aa))(d:Ai)(known:Int)(r:((List Ae)×Int))(h:BY n l d known=some r):BZ Tryz.prog 27 [hC l,.agg (kD d),iP known] (.tup [Mk r.1,iP r.2]):=by
 unfold BY at h
 refine vP ⟨[0,1,2,3,4,6,7,8,9,10,11,12,13,14,15,20,26,28,29,30,31,44],[]⟩ Tryz.func27 follows fun Q a=>?_
 refine xZ 1 [] ?_
 refine xZ 0 [] ?_
 obtain⟨e,t,h⟩:=Ab h
 refine cD 2 [(1,fk (LB _ _ _ t))] h (fun c h=>?_) fun c h=>?_
 cases h
 exact rt 1 [] a
 obtain⟨e1,f,h⟩:=Ab h
 refine cD 2 [(2,fk (L9 _ _ _ _ f))] h (fun g h=>?_) fun g h=>?_
 cases h
 exact rt 1 [] a
 refine wl 1 [] ?_
 refine pvX (.tmp 10) ?_
 refine mE 1 [(1,fl As l)] h (fun out=>⟨[(3,.vptr [hC l] 0),(6,.sl [] .own),(7,iP 0),(10,.prv (out.map Ak.vals))],[]⟩) ?_ fun y e2 hJ=>?_
 rintro out h
 replace h:=Aj h
 rcases h with⟨b,h⟩|⟨b,h⟩
 have q:=h
 obtain rfl:=Tn b
 have h:=q
 clear q
 refine poR Ak Df (.tmp 10) [] ?_
 cases h
 exact rt 2 [(2,fk (Ae4 l))] a
 refine thR Ak (.tmp 10) out _ rfl (Hb b) fun cap m_ _ i=>?_
 obtain⟨l1,j,h⟩:=Ab h
 refine wl 1 [(2,fs (Iu _ _ _ _ cap m_ _ j))] ?_
 replace h:=Aj h
 rcases h with⟨k,h⟩|⟨k,h⟩
 refine unR Ak (.tmp 10) l1 0 out.length cap m_ (EN k) (JR (EN k) (Hb b)) i ?_
 refine poR Ak Df (.tmp 10) l1 ?_
 cases h
 exact rt 1 [] a
 cases h
 refine lF 1 [] (A:=((List Ae)×Int)) (fun n (out1,v30)=>Cx n l d known out1 v30) (fun (out1,v30)=>⟨[(2,iP known),(3,.vptr [hC l] 0),(4,.vptr (kD d) 0),(6,.sl [] .own),(7,iP 0),(10,.prv (out1.map Ak.vals)),(28,hC l),(29,iP (l.length:Int)),(30,iP v30)],[]⟩) ([],0) e2 (fun _=>rfl) ?_
 rintro n ⟨out1,v30⟩ e2 ih
 replace e2:=(Cx.eq_2 ..).symm.trans e2
 refine cD 1 [] e2 (fun m e2=>?_) fun m e2=>?_
 obtain⟨x,u,e2⟩:=Ab e2
 obtain⟨s,hs,e2⟩:=Ab e2
 refine cD 4 [(1,fi As u),(7,fk (Si _ _ _ _ _ hs))] e2 (fun o e2=>?_) fun o e2=>?_
 obtain⟨l2,p,e2⟩:=Ab e2
 exact mJ 2 [(6,fap Ak (by simp) p)] (ih (_,_) e2)
 exact mJ 1 [] (ih (_,_) e2)
 exact mJ 1 [] (hJ _ (oj e2))
end Go.Proofs.YtehfpameijkafaaGreatDoor
namespace Go.Proofs.YtehfpameijkafaaGreatDoor
open Go.RowKit Go.Q Go.Vl Go.Sp
set_option maxRecDepth 100000
set_option linter.unusedSimpArgs false
set_option maxHeartbeats 4000000
set_option linter.unusedVariables false
theorem Hm (s:Ae)(day:Int)(r:Bool)(h:DO s day=some r):BZ Tryz.prog 51 [.agg (kX6 s),iP day] (bP r):=by
 unfold DO at h
 refine vP ⟨[0,1,2,4],[]⟩ Tryz.func51 follows fun Q b=>?_
 refine mE 1 [] h (fun v4=>⟨[(4,bP v4)],[kX6 s]⟩) ?_ fun y e hJ=>?_
 rintro v4 h
 cases h
 exact rt 0 [] b
 rcases Aj e with⟨a,e⟩|⟨a,e⟩
 exact mJ 1 [(4,fo a)] (hJ _ (oj e))
 exact mJ 1 [(4,fo a)] (hJ _ (oj e))
theorem MP (h_:Int)(other:Int)(r:Int)(h:Ec h_ other=some r):BZ Tryz.prog 74 [iP h_,iP other] (iP r):=by
 unfold Ec at h
 refine vP ⟨[0,1,4,8],[]⟩ Tryz.func74 follows fun Q a=>?_
 refine cD 2 [] h (fun b h=>?_) fun b h=>?_
 cases h
 exact rt 1 [] a
 cases h
 exact rt 1 [] a
theorem Vb (n:Nat)(l:(List Aa))(s:(List Ae))(day:Int)(r:Int)(h:Jp n l s day=some r):BZ Tryz.prog 50 [hC l,Mk s,iP day] (iP r):=by
 unfold Jp at h
 refine vP ⟨[0,1,2,6,7,8,9,10,11,12,13,17,43,64,71,77],[]⟩ Tryz.func50 follows fun Q D=>?_
 refine mI 3 [] h (fun out=>⟨[(6,iP 0),(7,iP out)],[]⟩) ?_ fun y e h hJ=>?_
 rintro out h
 cases h
 exact rt 1 [] D
 refine lF 1 [] (A:=(Int×Int)) (fun n (out1,i)=>Cw n s l day out1 i) (fun (out1,i)=>⟨[(0,hC l),(1,Mk s),(2,iP day),(6,iP 0),(7,iP out1),(8,iP i)],[]⟩) (4095,0) e (fun _=>rfl) ?_
 rintro n ⟨out1,i⟩ e ih
 replace e:=(Cw.eq_2 ..).symm.trans e
 refine cD 1 [(2,fl BG s)] e (fun o e=>?_) fun o e=>?_
 obtain⟨x,E,e⟩:=Ab e
 obtain⟨x1,p,e⟩:=Ab e
 refine mE 3 [(3,fi BG E),(2,fi As p)] e (fun (i1,common,some_)=>⟨[(0,hC l),(1,Mk s),(2,iP day),(6,iP 0),(7,iP out1),(8,iP i1),(10,iP common),(11,bP some_)],[]⟩) ?_ fun y1 e1 q=>?_
 rintro⟨i1,common,some_⟩ e
 refine mE 2 [] e (fun v71=>⟨[(0,hC l),(1,Mk s),(2,iP day),(6,iP 0),(7,iP out1),(8,iP i1),(10,iP common),(11,bP some_),(13,.fnb 74 [iP out1]),(71,bP v71)],[]⟩) ?_ fun y2 e2 f=>?_
 rintro v71 e
 refine cD 0 [] e (fun t e=>?_) fun t e=>?_
 cases e
 cases h
 exact rt 1 [] D
 refine cD 1 [] e (fun F e=>?_) fun F e=>?_
 obtain⟨out2,a,e⟩:=Ab e
 exact mJ 1 [(2,fk (MP _ _ _ a))] (ih (_,_) e)
 exact mJ 0 [] (ih (_,_) e)
 rcases Aj e2 with⟨b,e2⟩|⟨b,e2⟩
 exact mJ 1 [(1,fo b)] (f _ (oj e2))
 exact mJ 1 [(1,fo b)] (f _ (oj e2))
 refine lF 1 [] (A:=(Int×Int×Bool)) (fun n (i2,common1,some_1)=>Ck n s l x1 day i2 common1 some_1) (fun (i2,common1,some_1)=>⟨[(0,hC l),(1,Mk s),(2,iP day),(6,iP 0),(7,iP out1),(8,iP i2),(9,iP x1.Rank),(10,iP common1),(11,bP some_1)],[]⟩) (i,4095,false) e1 (fun _=>rfl) ?_
 rintro n ⟨i2,common1,some_1⟩ e1 g
 replace e1:=(Ck.eq_2 ..).symm.trans e1
 refine mE 0 [] e1 (fun v43=>⟨[(0,hC l),(1,Mk s),(2,iP day),(6,iP 0),(7,iP out1),(8,iP i2),(9,iP x1.Rank),(10,iP common1),(11,bP some_1),(43,bP v43)],[]⟩) ?_ fun y3 e3 j=>?_
 rintro v43 e1
 refine cD 0 [] e1 (fun u e1=>?_) fun u e1=>?_
 obtain⟨x2,k,e1⟩:=Ab e1
 obtain⟨x3,v,e1⟩:=Ab e1
 refine mE 2 [(3,fi BG k),(2,fi As v)] e1 (fun v64=>⟨[(0,hC l),(1,Mk s),(2,iP day),(6,iP 0),(7,iP out1),(8,iP i2),(9,iP x1.Rank),(10,iP common1),(11,bP some_1),(12,.ptr 0 0),(64,bP v64)],[kC x3]⟩) ?_ fun y4 e4 m=>?_
 rintro v64 e1
 refine cD 0 [] e1 (fun w e1=>?_) fun w e1=>?_
 exact mJ 2 [] (g (_,_,_) e1)
 exact mJ 1 [] (g (_,_,_) e1)
 rcases Aj e4 with⟨c,e4⟩|⟨c,e4⟩
 obtain⟨a_,z,e4⟩:=Ab e4
 exact mJ 1 [(3,fo c),(2,fi BG k),(2,fk (Hm _ _ _ z))] (m _ (oj e4))
 exact mJ 1 [(3,fo c)] (m _ (oj e4))
 exact mJ 1 [] (q _ (oj e1))
 rcases Aj e3 with⟨d,e3⟩|⟨d,e3⟩
 obtain⟨x4,B,e3⟩:=Ab e3
 obtain⟨x5,C,e3⟩:=Ab e3
 exact mJ 1 [(2,fl BG s),(1,fo d),(3,fi BG B),(2,fi As C)] (j _ (oj e3))
 exact mJ 1 [(2,fl BG s),(1,fo d)] (j _ (oj e3))
 exact mJ 1 [] (hJ _ (oj e))
theorem CT (n:Nat)(l:(List Aa))(s:(List Ae))(day:Int)(r:A7)(h:GP n l s day=some r):BZ Tryz.prog 28 [hC l,Mk s,iP day] (.agg (Rp r)):=by
 unfold GP at h
 refine vP ⟨[0,1,2,6,7,8,10,11,17,18,19,20,42,52,59],[]⟩ Tryz.func28 follows fun Q v=>?_
 obtain⟨w,B,h⟩:=Ab h
 refine wl 2 [(4,fk (Vb _ _ _ _ _ B))] ?_
 refine pvX (.cell 1 2) ?_
 refine mE 2 [(2,fl BG s)] h (fun (out,out1)=>⟨[(6,.ptr 0 0),(7,.ptr 1 0)],[[iP 0,iP 0,.sl [] .own],[iP out,iP w,.prv (out1.map FE.vals)]]⟩) ?_ fun y e hJ=>?_
 rintro⟨out,out1⟩ h
 replace h:=Aj h
 rcases h with⟨i,h⟩|⟨i,h⟩
 have z:=h
 obtain rfl:=Tn i
 have h:=z
 clear z
 refine poR FE BH (.cell 1 2) [] ?_
 cases h
 exact rt 2 [(2,fk Acq)] v
 refine thR FE (.cell 1 2) out1 _ rfl (Hb i) fun cap m_ _ j=>?_
 obtain⟨data,c,h⟩:=Ab h
 refine wl 1 [(2,fs (ZS (σ:=[[iP 0,iP 0,.sl [] .own],[iP out,iP w,.asl 2 0 out1.length cap],DQ (out1.map FE.vals) m_]) (b:=2) (cap:=cap) (e:=m_) c rfl))] ?_
 replace h:=Aj h
 rcases h with⟨k,h⟩|⟨k,h⟩
 refine unR FE (.cell 1 2) data 2 out1.length cap m_ (EN k) (JR (EN k) (Hb i)) j ?_
 refine poR FE BH (.cell 1 2) data ?_
 cases h
 exact rt 1 [] v
 cases h
 refine lF 1 [] (A:=(Int×Int×Int×(List Int))) (fun n (rank,v19,out2,out3)=>Db n s l day rank v19 out2 out3) (fun (rank,v19,out2,out3)=>⟨[(0,hC l),(2,iP day),(6,.ptr 0 0),(7,.ptr 1 0),(8,iP rank),(17,Mk s),(18,iP (s.length:Int)),(19,iP v19)],[[iP 0,iP 0,.sl [] .own],[iP out2,iP w,.prv (out3.map FE.vals)]]⟩) (-1,0,0,[]) e (fun _=>rfl) ?_
 rintro n ⟨rank,v19,out2,out3⟩ e ih
 replace e:=(Db.eq_2 ..).symm.trans e
 refine cD 1 [] e (fun m e=>?_) fun m e=>?_
 obtain⟨x,C,e⟩:=Ab e
 obtain⟨x1,o,e⟩:=Ab e
 refine mE 3 [(0,fi BG C),(6,fi As o)] e (fun v42=>⟨[(0,hC l),(2,iP day),(6,.ptr 0 0),(7,.ptr 1 0),(8,iP rank),(10,.ptr 2 0),(11,.ptr 3 0),(17,Mk s),(18,iP (s.length:Int)),(19,iP v19),(42,bP v42)],[[iP 0,iP 0,.sl [] .own],[iP out2,iP w,.prv (out3.map FE.vals)],kX6 x,kC x1]⟩) ?_ fun y1 e1 d=>?_
 rintro v42 e
 refine cD 0 [] e (fun p e=>?_) fun p e=>?_
 exact mJ 2 [] (ih (_,_,_,_) e)
 obtain⟨l1,q,e⟩:=Ab e
 refine cD 4 [(8,fap FE (by simp) q)] e (fun t e=>?_) fun t e=>?_
 exact mJ 2 [] (ih (_,_,_,_) e)
 refine cD 1 [] e (fun u e=>?_) fun u e=>?_
 exact mJ 2 [] (ih (_,_,_,_) e)
 exact mJ 1 [] (ih (_,_,_,_) e)
 rcases Aj e1 with⟨a,e1⟩|⟨a,e1⟩
 exact mJ 1 [(3,fo a)] (d _ (oj e1))
 obtain⟨a_,g,e1⟩:=Ab e1
 rcases Aj e1 with⟨f,e1⟩|⟨f,e1⟩
 exact mJ 1 [(3,fo a),(2,fk (Hm _ _ _ g)),(2,fo f)] (d _ (oj e1))
 exact mJ 1 [(3,fo a),(2,fk (Hm _ _ _ g)),(2,fo f)] (d _ (oj e1))
 exact mJ 1 [] (hJ _ (oj e))
theorem TA (n:Nat)(s:(List Ae))(r:(List Int))(h:EY n s=some r):JW Tryz.prog 29 [Mk s] [] (.ret (.fn 53 [.ptr 0 0])) [[.prv (r.map FE.vals)]]:=by
 unfold EY at h
 refine vS ⟨[0,2,3,5,7,8,9,10],[]⟩ Tryz.func29 follows fun Q k=>?_
 refine wl 1 [] ?_
 refine hwX 6 ?_
 refine mE 2 [(4,fl BG s)] h (fun l=>⟨[(2,.fno false 0 []),(3,.ptr 0 0)],[[.prv (l.map FE.vals)]]⟩) ?_ fun y e hJ=>?_
 rintro l h
 replace h:=Aj h
 rcases h with⟨c,h⟩|⟨c,h⟩
 cases h
 refine thR FE (.cell 0 0) l _ rfl (Hb c) fun cap m_ d f=>?_
 obtain⟨data,a,h⟩:=Ab h
 refine wl 1 [(1,fs (ZS (σ:=[[.asl 1 0 l.length cap],DQ (l.map FE.vals) m_]) (b:=1) (cap:=cap) (e:=m_) a rfl))] ?_
 replace h:=Aj h
 rcases h with⟨g,h⟩|⟨g,h⟩
 refine unR FE (.cell 0 0) data 1 l.length cap m_ (EN g) (JR (EN g) (Hb c)) f ?_
 cases h
 exact rt 1 [] k
 cases h
 refine lF 1 [] (A:=(Int×(List Int))) (fun n (v9,l1)=>CH n s v9 l1) (fun (v9,l1)=>⟨[(2,.fno false 0 []),(3,.ptr 0 0),(7,Mk s),(8,iP (s.length:Int)),(9,iP v9)],[[.prv (l1.map FE.vals)]]⟩) (0,[0]) e (fun _=>rfl) ?_
 rintro n ⟨v9,l1⟩ e ih
 replace e:=(CH.eq_2 ..).symm.trans e
 refine cD 1 [] e (fun i e=>?_) fun i e=>?_
 obtain⟨x,m,e⟩:=Ab e
 obtain⟨l2,j,e⟩:=Ab e
 exact mJ 4 [(0,fi BG m),(10,fap FE (by simp) j)] (ih (_,_) e)
 exact mJ 1 [] (hJ _ (oj e))
theorem GJ (n:Nat)(s:(List Ae))(r:(List Int))(h:EY n s=some r)(σ:List (List PV)):JW Tryz.prog 29 [Mk s] σ (.ret (.fn 53 [.ptr σ.length 0])) (σ++[[.prv (r.map FE.vals)]]) :=
 (VC.grow (TA n s r h) rfl).mono (by
  rintro x σ' ⟨y,τ,⟨rfl,rfl⟩,rfl,rfl⟩
  refine⟨?_,rfl⟩
  show Cs.ret (.fn 53 [.ptr (0+σ.length) 0])=_
  rw [ø])
end Go.Proofs.YtehfpameijkafaaGreatDoor
namespace Go.Proofs.YtehfpameijkafaaGreatDoor
open Go Go.RowKit Go.Proofs Go.Sort Go.Vl Go.Sp Go.Shelf
theorem Wc {p:Int->Bool}(c:List Int)(k:Nat)(h:k<c.length):(c.take (k+1)).filter p=(c.take k).filter p++(if p c[k] then [c[k]] else []):=by
 rw [List.take_succ_eq_append_getElem h,Ğ]
 congr 1
 by_cases hp:p c[k]<;>simp [hp]
theorem X3 {p:Int->Bool}(c:List Int)(k:Nat):(c.take k).filter p <+: c.filter p:=(List.take_prefix k c).filter p
theorem QQ (r:Option Nat)(n:Nat):(Gv r).room n:=fun _ h=>by simp [Gv,Fence.wide] at h
theorem Wx {P:Program}{f:FuncId}{args:Array Value}{w:World}{R:Ending->World->Prop}{n m:Nat}(h:CallsIn (Gv none) n P f args w R):CallsIn (Gv none) m P f args w R :=
 ⟨h.1,fun cs _=>h.2 cs (QQ _ _)⟩
theorem UU {P:Program}{l:Nat}{args:Array Value}{w:World}{R:Ending->World->Prop}{n m:Nat}(h:YieldAt (Gv none) n P l args w R):YieldAt (Gv none) m P l args w R:=by
 obtain⟨fn,tmps,assign,body,h1,h2⟩:=h
 exact⟨fn,tmps,assign,body,h1,h2.1,fun c cs _=>h2.2 c cs (QQ _ _)⟩
set_option maxRecDepth 100000 in
set_option maxHeartbeats 4000000 in
theorem Zs (F:Fence)(n:Nat)(hfn:∀ f,F.fn f)(hro:F.round=none)(hn:1<=n)(b0 ba len cap l:Nat)(c:List Int)(hreach:c.length*8<=140737488351232)(W:World)
 (hcell0:W.cell? ⟨b0,0,none⟩=some (.slice (some ⟨ba,0,none⟩) len cap))
 (hcon:CallsIn F (n-1) Tryz.prog 54 #[.slice (some ⟨ba,0,none⟩) len cap] W fun e w'=>e=.returned (.slice (some ⟨ba,0,none⟩) c.length cap)/\T5 ba W w'/\∃ O,w'.heap[ba]?=some O/\∀ w2:World,w2.heap[ba]?=some O->∀ k (h:k<c.length),w2.cell? ⟨ba,k,none⟩=some (.int .i64 c[k]))
 (J Jx:List Int->World->Prop) (hJ:∀ s A B,J s A->T5 ba A B->J s B)
 (hY:∀ pre x W1,J pre W1->pre++[x] <+: c.filter (fun x=>decide (x<=41666))->YieldAt F (n-1) Tryz.prog l #[.int .i64 x] W1 fun e W'=>(e=.returned (.bool true)/\J (pre++[x]) W'/\W'.heap[ba]?=W1.heap[ba]?)∨(e=.returned (.bool false)/\Jx (pre++[x]) W'))
 (h0:J [] W) :
 CallsIn F n Tryz.prog 53 #[.func (.yield l) #[] #[],.pointer (some ⟨b0,0,none⟩)] W fun e W'=>(∃ v,e=.returned v)/\(J (c.filter fun x=>decide (x<=41666)) W'∨∃ pre,Jx pre W'):=by
 refine callsIn_of_wp Tryz.func53 rfl (hfn _) ?_ hro
 have h54:F.fn 54:=hfn _
 simp only [Tryz.ntmps53,List.size_toArray,à,ö,Nat.reduceAdd,Nat.reduceSub,Array.replicate_succ,Array.replicate_zero,List.push_toArray,List.append_toArray,ê,ĝ]
 gi_wp2_with (gi_at_call 54;refine hcon.mono ?_;rintro e w1 ⟨rfl,hb1,O,hO,hcells⟩)
 have hJ1:J [] w1:=hJ _ _ _ h0 hb1
 gi_loopw [8] (fun i wr=>∃ k:Nat,k<=c.length/\i=.int .i64 k/\J ((c.take k).filter fun x=>decide (x<=41666)) wr/\wr.heap[ba]?=some O)
  (fun i _=>c.length-(intOf i).toNat)
 case atStart=>exact⟨0,ò _,rfl,hJ1,hO⟩
 case round =>
  obtain⟨k,hk,rfl,hJs,hnx⟩:=hrel
  by_cases hlt:k<c.length
  . have hcx:=hcells wr hnx k hlt
    have hsn:=Wc (p:=fun x=>decide (x<=41666)) c k hlt
    by_cases hd:c[k]<=41666
    . rw [È (by simpa using hd)] at hsn
      obtain⟨fn,tmps,assign,body,hy,hR⟩:=hY _ c[k] wr hJs (by rw [<- hsn];exact X3 c (k+1))
      rw [<- hsn] at hR
      gi_wp2
      refine hR.mono ?_
      rintro e W3 (⟨rfl,hJ3,hk3⟩|⟨rfl,hJx3⟩)
      . gi_wp2
        go_roundw
        case rel=>exact⟨k+1,by omega,by simp,hJ3,hk3.trans hnx⟩
        case measure=>simp [intOf];omega
      . gi_wp2
        refine bodyPost_ret (results_none rfl _ _ _) rfl ?_
        exact⟨⟨_,rfl⟩,.inr ⟨_,hJx3⟩⟩
    . rw [Ä (by simpa using hd),ă] at hsn
      gi_wp2
      go_roundw
      case rel=>exact⟨k+1,by omega,by simp,by rw [hsn];exact hJs,hnx⟩
      case measure=>simp [intOf];omega
  . obtain rfl:k=c.length:=by omega
    gi_wp2
    go_end0
    rw [List.take_length] at hJs
    exact⟨⟨_,rfl⟩,.inl hJs⟩
theorem Aa5 (zs:List Int)(hreach:zs.length*8<=140737488351232):Acp Tryz.prog 53 zs (BV zs):=by
 intro b0 ba cap T Ta arr hne hcap hcapm harr W hW l J Jx hJ hJx hY h0
 obtain⟨hW0,hWa⟩:=hW
 have hlt:ba<W.heap.size:=(Array.getElem?_eq_some_iff.1 hWa).1
 have hcell0:W.cell? ⟨b0,0,none⟩=some (.slice (some ⟨ba,0,none⟩) zs.length cap):=by simp [World.cell?,hW0]
 have hH:Holds (Value.int .i64) W ba 0 zs.toArray:=by
  intro j hj
  have hj':j<zs.length:=by simpa using hj
  refine⟨?_,?_⟩
  . rw [ø]
    have h:=harr j hj'
    simp [World.cell?,hWa,h,hj']
  . simp [World.frozen?,hWa]
 have hcon:CallsIn (Gv none) (1-1) Tryz.prog 54 #[.slice (some ⟨ba,0,none⟩) zs.length cap] W fun e w'=>e=.returned (.slice (some ⟨ba,0,none⟩) (Lib.compact zs).length cap)/\T5 ba W w'/\∃ O,w'.heap[ba]?=some O/\∀ w2:World,w2.heap[ba]?=some O->∀ k (h:k<(Lib.compact zs).length),w2.cell? ⟨ba,k,none⟩=some (.int .i64 (Lib.compact zs)[k]) :=
  (Nh (Tryz.slices_Compact_int ba 0 cap zs W hH (by omega) hcap)).mono (by
   rintro e w' ⟨rfl,q,rfl⟩
   refine⟨rfl,⟨rfl,rfl,rfl,?_,fun k _ hk=>P3 _ (Sort.ahead W q) ba _ k hk⟩,_,P2 _ (Sort.ahead W q) ba _ hWa,?_⟩
   . show W.heap.size<=(W.heap.modify _ _).size
     simp
   . intro w2 hw2 k hk
     have hl:=Lib.compact_length_le zs
     have hg:=Oh (Lib.compact zs++List.replicate (zs.length-(Lib.compact zs).length) 0) arr k
     have hka:k<arr.size:=(Array.getElem?_eq_some_iff.1 (harr k (by omega))).1
     rw [dif_pos ⟨by simp;omega,hka⟩,Ď hk] at hg
     have hs2:=MZ (Lib.compact zs++List.replicate (zs.length-(Lib.compact zs).length) 0) arr
     simp only [World.cell?,hw2]
     rw [Ê,æ (by rw [hs2];exact hka)] at hg
     rw [æ (by rw [hs2];exact hka)]
     simpa using hg)
 have hcl:=Lib.compact_length_le zs
 have hY:=hY
 unfold BV at hY ⊢
 rw [<- XJ] at hY ⊢
 exact Wx (n:=1) (Zs (Gv none) 1 (fun _=>trivial) rfl (ä _) b0 ba zs.length cap l (Lib.compact zs) (by omega) W hcell0 hcon J Jx hJ (fun pre x W1 h1 h2=>UU (hY pre x W1 h1 h2)) h0)
end Go.Proofs.YtehfpameijkafaaGreatDoor
namespace Go.Proofs.YtehfpameijkafaaGreatDoor
open Go.RowKit Go.Q Go.Vl Go.Sp
set_option maxRecDepth 100000
set_option linter.unusedSimpArgs false
set_option maxHeartbeats 4000000
set_option linter.unusedVariables false
theorem Iw (n:Nat)(l:(List Aa))(d:Ai)(known:Int)(r:((List Al)×Int))(h:Cj n l d known=some r):BZ Tryz.prog 11 [hC l,.agg (kD d),iP known] (.tup [Yz r.1,iP r.2]):=by
 unfold Cj at h
 refine vRP ⟨[0,1,2,3,4,6,7,8,9,10,11,12,13,22,25,26,56,58],[(9,[9999,0,0,1,2,3,4,5,6,7,8,9,10,11,12,13,14,15,16,17,18,19,20,21,22,23])]⟩ Tryz.func11 follows fun Q A=>?_
 obtain⟨s,hs,h⟩:=Ab h
 refine cD 3 [(7,fk (Jy _ _ _ _ _ hs))] h (fun p h=>?_) fun p h=>?_
 cases h
 exact rtG 1 [] A
 refine wl 1 [] ?_
 refine pvX (.cell 3 0) ?_
 obtain⟨zs,q,h⟩:=Ab h
 refine wl 1 [(1,fs (GJ _ _ _ q [[hC l],kD d,[Mk s.1],[.prv []]]))] ?_
 replace h:=Aj h
 rcases h with⟨B,h⟩|⟨B,h⟩
 cases h
 replace h:=Aj h
 rcases h with⟨C,h⟩|⟨C,h⟩
 refine rgW 0 [] 4 53 26 zs (BV zs) [(3,.ptr 0 0),(8,.ptr 2 0),(10,.ptr 3 0)] (fun days_ out=>Bi n l s days_ out) (fun out=>[[hC l],kD d,[Mk s.1],[.prv (out.map Au.vals)]]) (fun day_ out=>⟨[(3,.ptr 0 0),(8,.ptr 2 0),(10,.ptr 3 0),(11,iP day_)],[[hC l],kD d,[Mk s.1],[.prv (out.map Au.vals)]]⟩) [] h (Hb B) (Aa5 zs (þ C)) (fun _=>⟨rfl,by kernel_rfl⟩) (fun _ _=>by kernel_rfl) (by kernel_rfl) ?_ ?_
 rintro day days out h J ih
 replace h:=(Bi.eq_2 ..).symm.trans h
 obtain⟨x,E,h⟩:=Ab h
 refine wl 2 [(3,fk (CT _ _ _ _ _ E))] ?_
 replace h:=Aj h
 rcases h with⟨a,h⟩|⟨a,h⟩
 have D:=h
 obtain rfl:=Tn a
 have h:=D
 clear D
 refine poR Au CM (.cell 3 0) [] ?_
 refine wl 5 [] ?_
 refine pvX (.cell 3 0) ?_
 obtain⟨l1,t,h⟩:=Ab h
 exact rgE 1 [(8,fap Au (by simp) t)] (ih _ h)
 refine thR Au (.cell 3 0) out _ rfl (Hb a) fun cap m_ _ c=>?_
 refine mE 1 [] h (fun v56=>⟨[(10,.ptr 3 0),(11,iP day),(12,.ptr 4 0),(13,iP (out.length:Int)),(56,bP v56)],[[hC l],kD d,[Mk s.1],[.asl 5 0 out.length cap],Rp x,DQ (out.map Au.vals) m_]⟩) ?_ fun y e hJ=>?_
 rintro v56 h
 refine cD 0 [] h (fun u h=>?_) fun u h=>?_
 refine wl 1 [] ?_
 replace h:=Aj h
 rcases h with⟨v,h⟩|⟨v,h⟩
 refine unR Au (.cell 3 0) out 5 out.length cap m_ (EN v) (JR (EN v) (Hb a)) c ?_
 exact rgE 0 [] (ih _ h)
 cases h
 refine cD 1 [] h (fun w h=>?_) fun w h=>?_
 obtain⟨_,F,h⟩:=Ab h
 obtain⟨l2,z,h⟩:=Ab h
 refine wl 1 [(5,MS 5 4 out.length (D7 F)),(1,fsM Au m_ 1 [(.int .i64 (À (day-1)))] z (Ö rfl) (fun _=>rfl))] ?_
 replace h:=Aj h
 rcases h with⟨f,h⟩|⟨f,h⟩
 refine unR Au (.cell 3 0) l2 5 out.length cap m_ (EN f) (JR (EN f) (Hb a)) c ?_
 obtain⟨l3,m,h⟩:=Ab h
 exact rgE 1 [(8,fap Au (by simp) m)] (ih _ h)
 cases h
 replace h:=Aj h
 rcases h with⟨g,h⟩|⟨g,h⟩
 refine unR Au (.cell 3 0) out 5 out.length cap m_ (EN g) (JR (EN g) (Hb a)) c ?_
 obtain⟨l4,o,h⟩:=Ab h
 exact rgE 1 [(8,fap Au (by simp) o)] (ih _ h)
 cases h
 rcases Aj e with⟨b,e⟩|⟨b,e⟩
 obtain⟨_,i,e⟩:=Ab e
 obtain⟨x1,j,e⟩:=Ab e
 rcases Aj e with⟨k,e⟩|⟨k,e⟩
 exact mJ 1 [(2,fo b),(3,MS 5 4 out.length (D7 i)),(1,flf Au m_ 2 j rfl),(4,fo k),(3,MS 5 4 out.length (D7 i)),(1,flf Au m_ 3 j rfl)] (hJ _ (oj e))
 exact mJ 1 [(2,fo b),(3,MS 5 4 out.length (D7 i)),(1,flf Au m_ 2 j rfl),(4,fo k)] (hJ _ (oj e))
 exact mJ 1 [(2,fo b)] (hJ _ (oj e))
 rintro out h
 replace h:=(Bi.eq_1 ..).symm.trans h
 refine poR Au CM (.cell 3 0) out ?_
 cases h
 exact rt 1 [] A
 cases h
theorem Vc (n:Nat)(l:(List Aa))(d:Ai)(day:Int)(known:Int)(r:(A7×Int))(h:H8 n l d day known=some r):BZ Tryz.prog 10 [hC l,.agg (kD d),iP day,iP known] (.tup [.agg [iP r.1.State,iP r.1.Houses,hI r.1.By],iP r.2]):=by
 unfold H8 at h
 refine vP ⟨[0,1,2,3,5,8,9,10,11,20,28],[]⟩ Tryz.func10 follows fun Q b=>?_
 obtain⟨s,hs,h⟩:=Ab h
 refine cD 3 [(6,fk (Jy _ _ _ _ _ hs))] h (fun c h=>?_) fun c h=>?_
 cases h
 exact rt 1 [] b
 refine mE 0 [] h (fun v28=>⟨[(0,hC l),(2,iP day),(8,.ptr 1 0),(9,iP 0),(10,Mk s.1),(28,bP v28)],[kD d,[iP 0,iP 0,.sl [] .own]]⟩) ?_ fun y e hJ=>?_
 rintro v28 h
 refine cD 0 [] h (fun g h=>?_) fun g h=>?_
 cases h
 exact rt 1 [] b
 obtain⟨a_,f,h⟩:=Ab h
 cases h
 exact rt 1 [(3,fk (CT _ _ _ _ _ f))] b
 rcases Aj e with⟨a,e⟩|⟨a,e⟩
 exact mJ 1 [(2,fo a)] (hJ _ (oj e))
 exact mJ 1 [(2,fo a)] (hJ _ (oj e))
theorem NX (n:Nat)(l:(List Aa))(d:Ai)(known:Int)(r:(Int×Int×Int))(h:EZ n l d known=some r):BZ Tryz.prog 12 [hC l,.agg (kD d),iP known] (.tup [iP r.1,iP r.2.1,iP r.2.2]):=by
 unfold EZ at h
 refine vP ⟨[0,1,2,4,6,7,8,9,11,20,22,23,24,25,28,34],[]⟩ Tryz.func12 follows fun Q i=>?_
 obtain⟨s,hs,h⟩:=Ab h
 refine cD 3 [(7,fk (Iw _ _ _ _ _ hs))] h (fun c h=>?_) fun c h=>?_
 cases h
 exact rt 1 [] i
 refine mE 2 [(3,fl Ct s.1)] h (fun (keep,drop)=>⟨[(6,iP keep),(7,iP drop),(8,iP s.2)],[kD d]⟩) ?_ fun y e hJ=>?_
 rintro⟨keep,drop⟩ h
 cases h
 exact rt 1 [] i
 refine lF 1 [] (A:=(Int×Int×Int)) (fun n (keep1,drop1,v24)=>BA n s d keep1 drop1 v24) (fun (keep1,drop1,v24)=>⟨[(4,.ptr 0 0),(6,iP keep1),(7,iP drop1),(8,iP s.2),(22,Yz s.1),(23,iP (s.1.length:Int)),(24,iP v24)],[kD d]⟩) (-1,41667,0) e (fun _=>rfl) ?_
 rintro n ⟨keep1,drop1,v24⟩ e ih
 replace e:=(BA.eq_2 ..).symm.trans e
 refine cD 1 [] e (fun f e=>?_) fun f e=>?_
 obtain⟨x,j,e⟩:=Ab e
 refine cD 4 [(0,fi Ct j)] e (fun g e=>?_) fun g e=>?_
 exact mJ 2 [] (ih (_,_,_) e)
 refine mE 0 [] e (fun v34=>⟨[(4,.ptr 0 0),(6,iP keep1),(7,iP drop1),(8,iP s.2),(11,.ptr 1 0),(22,Yz s.1),(23,iP (s.1.length:Int)),(24,iP v24),(34,bP v34)],[kD d,kX8 x]⟩) ?_ fun y1 e1 b=>?_
 rintro v34 e
 refine cD 0 [] e (fun k e=>?_) fun k e=>?_
 exact mJ 2 [] (ih (_,_,_) e)
 exact mJ 1 [] (ih (_,_,_) e)
 rcases Aj e1 with⟨a,e1⟩|⟨a,e1⟩
 exact mJ 1 [(3,fo a)] (b _ (oj e1))
 exact mJ 1 [(3,fo a)] (b _ (oj e1))
 exact mJ 1 [] (hJ _ (oj e))
end Go.Proofs.YtehfpameijkafaaGreatDoor
namespace Go.Proofs.YtehfpameijkafaaGreatDoor
open Go Go.RowKit Go.Q Go.Vl Go.Sp
set_option maxRecDepth 100000
theorem VC.full {P:Program}{f:FuncId}{args:List PV}{σ σ1:List (List PV)}(h:VC P f args σ fun x σ'=>(x=.ret (.sl [] .own)∨x=.ret (.sl [] .full))/\σ'=σ1):VC P f args σ fun x σ'=>x=.ret (.sl [] .full)/\σ'=σ1:=by
 intro w G vs g i j k l
 refine (h w G vs g i j k l).mono ?_
 rintro e w' ⟨x,σ',G',⟨rfl|rfl,rfl⟩,⟨v,rfl,m,c⟩,hs,d⟩
 . refine⟨_,_,G',⟨rfl,rfl⟩,⟨v,rfl,?_,trivial⟩,hs,d⟩
   rcases (show A0 w' G' (.ret 0) [] v from c) with⟨_,rfl⟩|⟨b,cap,sz,T,arr,_,a,_⟩
   . exact .nil _ _
   . exact absurd rfl a
 . exact⟨_,_,G',⟨rfl,rfl⟩,⟨v,rfl,m,c⟩,hs,d⟩
theorem Acu:BZ Tryz.prog 30 [.sl [] .shared] (.sl [] .full):=by
 intro σ
 have c:VC Tryz.prog 30 [.sl [] .shared] [] (fun x σ'=>(x=.ret (.sl [] .own)∨x=.ret (.sl [] .full))/\σ'=[]):=by
  refine beg (L:=⟨[0,2,4],[]⟩) Tryz.func30 follows (by kernel_rfl) ?_
  refine brN 1 [] fun b=>?_
  cases b
  . exact ro 2 [] (R:=.sl [] .full) fun y a=>⟨.inr (by rw [a]),rfl⟩
  . exact ro 2 [] (R:=.sl [] .own) fun y a=>⟨.inl (by rw [a]),rfl⟩
 have d:=VC.full c
 refine (VC.grow d rfl).mono ?_
 rintro x σ' ⟨y,τ,⟨rfl,rfl⟩,rfl,rfl⟩
 exact⟨rfl,by simp⟩
theorem XV (s:(List Ae))(hs:s=[]):BZ Tryz.prog 30 [hP s Df] (.sl [] .full):=by
 subst hs
 exact Acu
theorem Acs (s:(List Ae))(hs:s≠[])(r:(List Ae))(hl:CC 24 [] s=some r):BZ Tryz.prog 30 [hP s Df] (oP r Df):=by
 cases s with
 |nil=>exact absurd rfl hs
 |cons x s =>
  refine vPo ⟨[0,2,4],[]⟩ Tryz.func30 follows fun Q a=>?_
  refine wl 3 [] ?_
  exact ro 1 [(2,faF BG hl (by simp))] a
end Go.Proofs.YtehfpameijkafaaGreatDoor
namespace Go.Proofs.YtehfpameijkafaaGreatDoor
open Go.RowKit Go.Q Go.Vl Go.Sp
set_option maxRecDepth 100000
set_option linter.unusedSimpArgs false
set_option maxHeartbeats 4000000
set_option linter.unusedVariables false
theorem JJ (n:Nat)(l:(List Aa))(d:Ai)(known:Int)(later:Int)(r:(Int×Int))(h:CI n l d known later=some r):BZ Tryz.prog 13 [hC l,.agg (kD d),iP known,iP later] (.tup [iP r.1,iP r.2]):=by
 unfold CI at h
 refine vRP ⟨[0,1,2,3,4,5,8,9,10,11,12,13,14,15,24,34,40,41,61],[(7,[9999,0,0,2,1,3,4]),(9,[9995])]⟩ Tryz.func13 follows fun Q o=>?_
 obtain⟨s,hs,h⟩:=Ab h
 refine cD 3 [(7,fk (Jy _ _ _ _ _ hs))] h (fun p h=>?_) fun p h=>?_
 cases h
 exact rtG 1 [] o
 obtain⟨s1,t,h⟩:=Ab h
 refine cD 2 [(3,fk (Jy _ _ _ _ _ t))] h (fun u h=>?_) fun u h=>?_
 cases h
 exact rtG 1 [] o
 refine mE 0 [] h (fun q=>⟨[(4,.ptr 0 0),(8,.ptr 2 0),(9,.ptr 3 0),(10,.ptr 4 0),(12,.ptr 5 0),(40,.fn 53 [.ptr 6 0])],[[hC l],kD d,[iP 0],[iP 0],[Mk s.1],[Mk s1.1],[.prv (q.map FE.vals)]]⟩) ?_ fun y e hJ=>?_
 rintro q h
 replace h:=Aj h
 rcases h with⟨A,h⟩|⟨A,h⟩
 cases h
 replace h:=Aj h
 rcases h with⟨B,h⟩|⟨B,h⟩
 refine rgW 0 [] 6 53 41 q (BV q) [(4,.ptr 0 0),(8,.ptr 2 0),(9,.ptr 3 0),(10,.ptr 4 0),(12,.ptr 5 0)] (fun days_ _=>CP n l s s1 days_) (fun _=>[[hC l],kD d,[iP 0],[iP 0],[Mk s.1],[Mk s1.1]]) (fun day_ _=>⟨[(4,.ptr 0 0),(8,.ptr 2 0),(9,.ptr 3 0),(10,.ptr 4 0),(12,.ptr 5 0),(13,iP day_)],[[hC l],kD d,[iP 0],[iP 0],[Mk s.1],[Mk s1.1]]⟩) () h (Hb A) (Aa5 q (þ B)) (fun _=>⟨rfl,by kernel_rfl⟩) (fun _ _=>by kernel_rfl) (by kernel_rfl) ?_ ?_
 rintro day days _ h J ih
 replace h:=(CP.eq_2 ..).symm.trans h
 obtain⟨x,j,h⟩:=Ab h
 obtain⟨y1,a,h⟩:=Ab h
 refine wl 1 [] ?_
 refine xE 12 [.no,.no,.no,.call (.agg (Rp x)),.no,.no,.no,.call (.agg (Rp y1)),.no,.no,.no,.no] ⟨[(8,.ptr 2 0),(9,.ptr 3 0),(13,iP day),(14,.ptr 6 0),(15,.ptr 7 0)],[[hC l],kD d,[iP 0],[iP 0],[Mk s.1],[Mk s1.1],Rp x,Rp y1]⟩ (And.intro (And.intro (CT n l s.1 day x j) (And.intro (And.intro (CT n l s1.1 day y1 a) (And.intro True.intro (And.intro (And.intro True.intro True.intro) True.intro))) (And.intro (And.intro (And.intro (CT n l s1.1 day y1 a) True.intro) (And.intro (And.intro (CT n l s1.1 day y1 a) True.intro) True.intro)) (And.intro (And.intro (And.intro (CT n l s1.1 day y1 a) (And.intro True.intro True.intro)) (And.intro (And.intro (CT n l s1.1 day y1 a) True.intro) True.intro)) True.intro)))) (And.intro (And.intro (And.intro (CT n l s.1 day x j) (And.intro (And.intro (CT n l s1.1 day y1 a) True.intro) (And.intro (And.intro (CT n l s1.1 day y1 a) True.intro) True.intro))) (And.intro (And.intro (CT n l s.1 day x j) (And.intro (CT n l s1.1 day y1 a) True.intro)) True.intro)) (And.intro (And.intro (And.intro (CT n l s.1 day x j) (And.intro (And.intro (CT n l s1.1 day y1 a) (And.intro True.intro True.intro)) (And.intro (And.intro (CT n l s1.1 day y1 a) True.intro) True.intro))) (And.intro (And.intro (CT n l s.1 day x j) (And.intro (CT n l s1.1 day y1 a) True.intro)) True.intro)) True.intro))) ?_
 refine mE 0 [] h (fun v61=>⟨[(8,.ptr 2 0),(9,.ptr 3 0),(13,iP day),(61,bP v61)],[[hC l],kD d,[iP 0],[iP 0],[Mk s.1],[Mk s1.1],Rp x,Rp y1]⟩) ?_ fun y2 e1 k=>?_
 rintro v61 h
 refine cD 0 [] h (fun v h=>?_) fun v h=>?_
 cases h
 exact rgT 1 [] o
 exact rgE 0 [] (ih () h)
 rcases Aj e1 with⟨f,e1⟩|⟨f,e1⟩
 exact mJ 1 [(5,fo f)] (k _ (oj e1))
 exact mJ 1 [(5,fo f)] (k _ (oj e1))
 rintro _ h
 replace h:=(CP.eq_1 ..).symm.trans h
 cases h
 exact rt 1 [] o
 cases h
 replace e:=Aj e
 rcases e with⟨b,e⟩|⟨b,e⟩
 rcases Afm s1.1 with he|he
 obtain⟨l1,g,e⟩:=Ab e
 obtain⟨zs,i,e⟩:=Ab e
 exact mJ 1 [(2,fk (XV s.1 (Tn b))),(0,faE BG g he),(0,fs (GJ _ _ _ i [[hC l],kD d,[iP 0],[iP 0],[Mk s.1],[Mk s1.1]]))] (hJ _ (oj e))
 obtain⟨l1,g,e⟩:=Ab e
 obtain⟨zs,i,e⟩:=Ab e
 exact mJ 1 [(2,fk (XV s.1 (Tn b))),(0,faF BG g he),(0,fs (GJ _ _ _ i [[hC l],kD d,[iP 0],[iP 0],[Mk s.1],[Mk s1.1]]))] (hJ _ (oj e))
 obtain⟨c,w,e⟩:=Ab e
 obtain⟨l2,z,e⟩:=Ab e
 obtain⟨zs1,m,e⟩:=Ab e
 exact mJ 1 [(2,fk (Acs s.1 (Hb b) _ w)),(0,fa BG z),(0,fs (GJ _ _ _ m [[hC l],kD d,[iP 0],[iP 0],[Mk s.1],[Mk s1.1]]))] (hJ _ (oj e))
end Go.Proofs.YtehfpameijkafaaGreatDoor
namespace Go.Proofs.YtehfpameijkafaaGreatDoor
open Go.RowKit Go.Q Go.Vl Go.Sp
set_option maxRecDepth 100000
set_option linter.unusedSimpArgs false
set_option maxHeartbeats 4000000
set_option linter.unusedVariables false
theorem HI (r:(List AF))(h:GO=some r):BZ Tryz.prog 174 [] (oE r):=by
 unfold GO at h
 refine vPo ⟨[0],[]⟩ Tryz.func174 follows fun Q a=>?_
 obtain⟨l,b,h⟩:=Ab h
 cases h
 exact ro 2 [(14,fB Fs b)] a
theorem Ay (p:Ad)(e:Int)(r:(Ex Ar Ad Unit))(h:Bh p e=some r):Lb r (fun v0 s0=>DP Tryz.prog 114 [iP e] [hT p.l,iP p.forms] (.ret (.tup [])) [hT s0.l,iP s0.forms]) (fun e0 s0=>DP Tryz.prog 114 [iP e] [hT p.l,iP p.forms] (.pan [{ v:=.iface 188 (.agg #[(.int .i64 e0.At),(.int .i64 e0.E)]),recovered:=false }]) [hT s0.l,iP s0.forms]):=by
 unfold Bh at h
 refine vMx ⟨[0,1],[]⟩ Tryz.func114 follows fun Q a=>?_
 obtain⟨x,b,h⟩:=Ab h
 cases h
 exact rp 1 [(4,fi Cy b)] a
theorem AK (p:Ad)(r:(Aq×Ad))(h:AH p=some r):DP Tryz.prog 115 [] [hT p.l,iP p.forms] (.ret (.agg [iP r.1.Kind,iP r.1.At,tP r.1.S,iP r.1.N])) [hT r.2.l,iP r.2.forms]:=by
 unfold AH at h
 refine vM ⟨[0,2,3],[]⟩ Tryz.func115 follows fun Q a=>?_
 obtain⟨x,b,h⟩:=Ab h
 obtain⟨l,c,h⟩:=Ab h
 cases h
 exact rt 4 [(5,fi Cy b),(8,fse Cy c)] a
theorem AW (p:Ad)(s:Æ)(r:Bool)(h:Bb p s=some r):DP Tryz.prog 116 [tP s] [hT p.l,iP p.forms] (.ret (bP r)) [hT p.l,iP p.forms]:=by
 unfold Bb at h
 refine vM ⟨[0,1,4],[]⟩ Tryz.func116 follows fun Q c=>?_
 refine mE 1 [] h (fun v4=>⟨[(4,bP v4)],[[hT p.l,iP p.forms]]⟩) ?_ fun y e hJ=>?_
 rintro v4 h
 cases h
 exact rt 0 [] c
 obtain⟨x,a,e⟩:=Ab e
 rcases Aj e with⟨b,e⟩|⟨b,e⟩
 exact mJ 1 [(4,fi Cy a),(3,fo b),(4,fi Cy a)] (hJ _ (oj e))
 exact mJ 1 [(4,fi Cy a),(3,fo b)] (hJ _ (oj e))
theorem C7 (p:Ad)(r:Bool)(h:D6 p=some r):DP Tryz.prog 117 [] [hT p.l,iP p.forms] (.ret (bP r)) [hT p.l,iP p.forms]:=by
 unfold D6 at h
 refine vM ⟨[0,2,9,10],[]⟩ Tryz.func117 follows fun Q j=>?_
 obtain⟨x,m,h⟩:=Ab h
 refine mE 4 [(5,fi Cy m)] h (fun v10=>⟨[(0,.ptr 0 0),(2,bP false),(10,bP v10)],[[hT p.l,iP p.forms]]⟩) ?_ fun y e hJ=>?_
 rintro v10 h
 refine cD 0 [] h (fun b h=>?_) fun b h=>?_
 cases h
 exact rt 1 [] j
 refine mE 0 [] h (fun v2=>⟨[(2,bP v2)],[[hT p.l,iP p.forms]]⟩) ?_ fun y1 e1 a=>?_
 rintro v2 h
 cases h
 exact rt 0 [] j
 obtain⟨i,k,e1⟩:=Ab e1
 rcases Aj e1 with⟨c,e1⟩|⟨c,e1⟩
 exact mJ 1 [(1,fm (AW _ _ _ k)),(0,fo c)] (a _ (oj e1))
 obtain⟨i1,d,e1⟩:=Ab e1
 exact mJ 1 [(1,fm (AW _ _ _ k)),(0,fo c),(1,fm (AW _ _ _ d))] (a _ (oj e1))
 refine cD 0 [] e (fun f e=>?_) fun f e=>?_
 exact mJ 0 [] (hJ _ (oj e))
 refine cD 1 [] e (fun g e=>?_) fun g e=>?_
 exact mJ 0 [] (hJ _ (oj e))
 exact mJ 1 [] (hJ _ (oj e))
theorem Ie (p:Ad)(r:(Ex Ar Ad Int))(h:Gy p=some r):Lb r (fun v0 s0=>DP Tryz.prog 145 [] [hT p.l,iP p.forms] (.ret (iP v0)) [hT s0.l,iP s0.forms]) (fun e0 s0=>DP Tryz.prog 145 [] [hT p.l,iP p.forms] (.pan [{ v:=.iface 188 (.agg #[(.int .i64 e0.At),(.int .i64 e0.E)]),recovered:=false }]) [hT s0.l,iP s0.forms]):=by
 unfold Gy at h
 refine vMx ⟨[0,2,10],[]⟩ Tryz.func145 follows fun Q b=>?_
 obtain⟨x,g,h⟩:=Ab h
 refine cD 2 [(5,fi Cy g)] h (fun i h=>?_) fun i h=>?_
 refine yE h (fun f p1 c h=>?_) fun e p2 c h=>?_
 obtain⟨n_,d,h⟩:=Ab h
 cases h
 exact rt 2 [(1,fm (Ay _ _ (.ok f p1) c)),(1,fm (AK _ _ d))] b
 cases h
 exact rp 1 [(1,Mm (Ay _ _ (.pan e p2) c))] b
 obtain⟨n_1,a,h⟩:=Ab h
 cases h
 exact rt 1 [(1,fm (AK _ _ a))] b
theorem Ce (p:Ad)(depth:Int)(not_:Bool)(r:(Ex Ar Ad Unit))(h:Dy p depth not_=some r):Lb r (fun v0 s0=>DP Tryz.prog 162 [iP depth,bP not_] [hT p.l,iP p.forms] (.ret (.tup [])) [hT s0.l,iP s0.forms]) (fun e0 s0=>DP Tryz.prog 162 [iP depth,bP not_] [hT p.l,iP p.forms] (.pan [{ v:=.iface 188 (.agg #[(.int .i64 e0.At),(.int .i64 e0.E)]),recovered:=false }]) [hT s0.l,iP s0.forms]):=by
 unfold Dy at h
 refine vMx ⟨[0,1,2,16,20],[]⟩ Tryz.func162 follows fun Q k=>?_
 refine mE 0 [] h (fun v16=>⟨[(0,.ptr 0 0),(1,iP depth),(16,bP v16)],[[hT p.l,iP p.forms]]⟩) ?_ fun y e hJ=>?_
 rintro v16 h
 refine mI 0 [] h (fun (p1,p2)=>⟨[(0,.ptr 0 0),(1,iP depth)],[[hT p1,iP p2]]⟩) ?_ fun y1 e1 h j=>?_
 rintro⟨p1,p2⟩ h
 refine cD 1 [] h (fun n h=>?_) fun n h=>?_
 refine yE h (fun f p3 c h=>?_) fun e2 p4 c h=>?_
 cases h
 exact rt 1 [(1,fm (Ay _ _ (.ok f p3) c))] k
 cases h
 exact rp 1 [(1,Mm (Ay _ _ (.pan e2 p4) c))] k
 cases h
 exact rt 0 [] k
 refine cD 0 [] e1 (fun m e1=>?_) fun m e1=>?_
 refine yE e1 (fun f1 p5 d e1=>?_) fun e3 p6 d e1=>?_
 exact mJ 1 [(1,fm (Ay _ _ (.ok f1 p5) d))] (j _ (oj e1))
 cases e1
 cases h
 exact rp 1 [(1,Mm (Ay _ _ (.pan e3 p6) d))] k
 exact mJ 0 [] (j _ (oj e1))
 obtain⟨b,hb,e⟩:=Ab e
 rcases Aj e with⟨a,e⟩|⟨a,e⟩
 rcases Aj e with⟨g,e⟩|⟨g,e⟩
 obtain⟨i,o,e⟩:=Ab e
 exact mJ 1 [(1,fm (C7 _ _ hb)),(1,fo a),(1,fo g),(1,fm (AW _ _ _ o))] (hJ _ (oj e))
 exact mJ 1 [(1,fm (C7 _ _ hb)),(1,fo a),(1,fo g)] (hJ _ (oj e))
 exact mJ 1 [(1,fm (C7 _ _ hb)),(1,fo a)] (hJ _ (oj e))
theorem Cd (p:Ad)(s:Æ)(r:(Ex Ar Ad Unit))(h:Dx p s=some r):Lb r (fun v0 s0=>DP Tryz.prog 147 [tP s] [hT p.l,iP p.forms] (.ret (.tup [])) [hT s0.l,iP s0.forms]) (fun e0 s0=>DP Tryz.prog 147 [tP s] [hT p.l,iP p.forms] (.pan [{ v:=.iface 188 (.agg #[(.int .i64 e0.At),(.int .i64 e0.E)]),recovered:=false }]) [hT s0.l,iP s0.forms]):=by
 unfold Dx at h
 refine vMx ⟨[0,1,7],[]⟩ Tryz.func147 follows fun Q b=>?_
 obtain⟨i,g,h⟩:=Ab h
 refine cD 1 [(2,fm (AW _ _ _ g))] h (fun j h=>?_) fun j h=>?_
 refine yE h (fun f p1 c h=>?_) fun e p2 c h=>?_
 obtain⟨n_,d,h⟩:=Ab h
 cases h
 exact rt 2 [(1,fm (Ay _ _ (.ok f p1) c)),(1,fm (AK _ _ d))] b
 cases h
 exact rp 1 [(1,Mm (Ay _ _ (.pan e p2) c))] b
 obtain⟨n_1,a,h⟩:=Ab h
 cases h
 exact rt 1 [(1,fm (AK _ _ a))] b
theorem JH (p:(List Aq))(p1:Int)(n_:Int)(q:Int)(q1:Int)(q2:Æ)(q3:(List Af))(q4:Int)(e:Int)(e1:Int)(e2:Æ)(e3:(List Af))(e4:Int)(b:AF)(r:Bool)(h:EM p p1 n_ q q1 q2 q3 q4 e e1 e2 e3 e4 b=some r):JW Tryz.prog 175 [.agg (kE b),.ptr 2 0,.ptr 1 0] [[hT p,iP p1],[.ptr 0 0],[iP n_],[iP q,iP q1,tP q2,oX q3,iP q4],[iP e,iP e1,tP e2,hX e3,iP e4]] (.ret (bP r)) [[hT p,iP p1],[.ptr 0 0],[iP n_],[iP q,iP q1,tP q2,oX q3,iP q4],[iP e,iP e1,tP e2,hX e3,iP e4]]:=by
 unfold EM at h
 refine vS ⟨[0,1,2,3,4],[]⟩ Tryz.func175 follows fun Q c=>?_
 refine mE 1 [] h (fun v4=>⟨[(4,bP v4)],[[hT p,iP p1],[.ptr 0 0],[iP n_],[iP q,iP q1,tP q2,oX q3,iP q4],[iP e,iP e1,tP e2,hX e3,iP e4],kE b]⟩) ?_ fun y e5 hJ=>?_
 rintro v4 h
 cases h
 exact rt 0 [] c
 rcases Aj e5 with⟨a,e5⟩|⟨a,e5⟩
 obtain⟨i,d,e5⟩:=Ab e5
 exact mJ 1 [(4,fo a),(3,fm (AW _ _ _ d))] (hJ _ (oj e5))
 exact mJ 1 [(4,fo a)] (hJ _ (oj e5))
theorem Iv (n:Nat)(p:(List Aq))(p1:Int)(n_:Int)(q:Int)(q1:Int)(q2:Æ)(q3:(List Af))(q4:Int)(e:Int)(e1:Int)(e2:Æ)(e3:(List Af))(e4:Int)(s:(List AF))(r:Int)(h:DA n p p1 n_ q q1 q2 q3 q4 e e1 e2 e3 e4 s=some r):JW Tryz.prog 173 [hE s,.fn 175 [.ptr 2 0,.ptr 1 0]] [[hT p,iP p1],[.ptr 0 0],[iP n_],[iP q,iP q1,tP q2,oX q3,iP q4],[iP e,iP e1,tP e2,hX e3,iP e4]] (.ret (iP r)) [[hT p,iP p1],[.ptr 0 0],[iP n_],[iP q,iP q1,tP q2,oX q3,iP q4],[iP e,iP e1,tP e2,hX e3,iP e4]]:=by
 unfold DA at h
 refine vS ⟨[0,1,4,5,7,8,9,16],[]⟩ Tryz.func173 follows fun Q b=>?_
 refine mI 2 [(2,fl Fs s)] h (fun _=>⟨[(4,iP 0)],[[hT p,iP p1],[.ptr 0 0],[iP n_],[iP q,iP q1,tP q2,oX q3,iP q4],[iP e,iP e1,tP e2,hX e3,iP e4]]⟩) ?_ fun y e5 h hJ=>?_
 rintro _ h
 cases h
 exact rt 1 [] b
 refine lF 1 [] (A:=Int) (fun n v8=>Cl n s p p1 n_ q q1 q2 q3 q4 e e1 e2 e3 e4 v8) (fun v8=>⟨[(0,hE s),(1,.fn 175 [.ptr 2 0,.ptr 1 0]),(4,iP 0),(7,iP (s.length:Int)),(8,iP v8)],[[hT p,iP p1],[.ptr 0 0],[iP n_],[iP q,iP q1,tP q2,oX q3,iP q4],[iP e,iP e1,tP e2,hX e3,iP e4]]⟩) 0 e5 (fun _=>rfl) ?_
 rintro n v8 e5 ih
 replace e5:=(Cl.eq_2 ..).symm.trans e5
 refine cD 1 [] e5 (fun a e5=>?_) fun a e5=>?_
 obtain⟨x,c,e5⟩:=Ab e5
 obtain⟨l,d,e5⟩:=Ab e5
 refine cD 3 [(5,fi Fs c),(1,fs (JH _ _ _ _ _ _ _ _ _ _ _ _ _ _ _ d))] e5 (fun f e5=>?_) fun f e5=>?_
 cases e5
 cases h
 exact rt 1 [] b
 exact mJ 1 [] (ih _ e5)
 exact mJ 1 [] (hJ _ (oj e5))
theorem LH (n0:Nat)
 (ih_parse_parser_expr:∀ m,m<=n0->∀ (p:Ad) (depth:Int) (r:(Ex Ar Ad Af)),AL m p depth=some r->Lb r (fun v0 s0=>DP Tryz.prog 146 [iP depth] [hT p.l,iP p.forms] (.ret (.agg (kX v0))) [hT s0.l,iP s0.forms]) (fun e0 s0=>DP Tryz.prog 146 [iP depth] [hT p.l,iP p.forms] (.pan [{ v:=.iface 188 (.agg #[(.int .i64 e0.At),(.int .i64 e0.E)]),recovered:=false }]) [hT s0.l,iP s0.forms]))
 (ih_parse_parser_level:∀ m,m<=n0->∀ (p:Ad) (n_:Int) (depth:Int) (r:(Ex Ar Ad Af)),Ba m p n_ depth=some r->Lb r (fun v0 s0=>DP Tryz.prog 163 [iP n_,iP depth] [hT p.l,iP p.forms] (.ret (.agg (kX v0))) [hT s0.l,iP s0.forms]) (fun e0 s0=>DP Tryz.prog 163 [iP n_,iP depth] [hT p.l,iP p.forms] (.pan [{ v:=.iface 188 (.agg #[(.int .i64 e0.At),(.int .i64 e0.E)]),recovered:=false }]) [hT s0.l,iP s0.forms]))
 (ih_parse_parser_neg:∀ m,m<=n0->∀ (p:Ad) (depth:Int) (r:(Ex Ar Ad Af)),B9 m p depth=some r->Lb r (fun v0 s0=>DP Tryz.prog 172 [iP depth] [hT p.l,iP p.forms] (.ret (.agg (kX v0))) [hT s0.l,iP s0.forms]) (fun e0 s0=>DP Tryz.prog 172 [iP depth] [hT p.l,iP p.forms] (.pan [{ v:=.iface 188 (.agg #[(.int .i64 e0.At),(.int .i64 e0.E)]),recovered:=false }]) [hT s0.l,iP s0.forms]))
 (ih_parse_parser_atom:∀ m,m<=n0->∀ (p:Ad) (depth:Int) (r:(Ex Ar Ad Af)),BB m p depth=some r->Lb r (fun v0 s0=>DP Tryz.prog 183 [iP depth] [hT p.l,iP p.forms] (.ret (.agg (kX v0))) [hT s0.l,iP s0.forms]) (fun e0 s0=>DP Tryz.prog 183 [iP depth] [hT p.l,iP p.forms] (.pan [{ v:=.iface 188 (.agg #[(.int .i64 e0.At),(.int .i64 e0.E)]),recovered:=false }]) [hT s0.l,iP s0.forms]))
 (n:Nat) (hn:n<=n0) (p:Ad) (depth:Int) (r:(Ex Ar Ad Af)) (h:AL (n+1) p depth=some r):Lb r (fun v0 s0=>DP Tryz.prog 146 [iP depth] [hT p.l,iP p.forms] (.ret (.agg (kX v0))) [hT s0.l,iP s0.forms]) (fun e0 s0=>DP Tryz.prog 146 [iP depth] [hT p.l,iP p.forms] (.pan [{ v:=.iface 188 (.agg #[(.int .i64 e0.At),(.int .i64 e0.E)]),recovered:=false }]) [hT s0.l,iP s0.forms]):=by
 replace h:=(AL.eq_2 ..).symm.trans h
 refine vMx ⟨[0,1,4,5,6,15],[(8,[9999,1,0,0,1,2,3,4,5,6,7,8,9,10])]⟩ Tryz.func146 follows fun Q a=>?_
 refine wl 1 [] ?_
 refine yE h (fun d p1 j h=>?_) fun e p2 j h=>?_
 refine wl 1 [(2,fm (Ce _ _ _ (.ok d p1) j))] ?_
 refine yE h (fun e1 p3 b h=>?_) fun e2 p4 b h=>?_
 obtain⟨i,o,h⟩:=Ab h
 refine cD 2 [(2,fm (ih_parse_parser_level _ hn _ _ _ (.ok e1 p3) b)),(3,fm (AW _ _ _ o))] h (fun q h=>?_) fun q h=>?_
 cases h
 exact rt 1 [] a
 obtain⟨n_,k,h⟩:=Ab h
 refine wl 1 [(1,fm (AK _ _ k))] ?_
 refine yE h (fun a_ p5 c h=>?_) fun e3 p6 c h=>?_
 refine wl 1 [(3,fm (ih_parse_parser_expr _ hn _ _ (.ok a_ p5) c))] ?_
 refine yE h (fun n_1 p7 f h=>?_) fun e4 p8 f h=>?_
 refine wl 1 [(1,fm (Cd _ _ (.ok n_1 p7) f))] ?_
 refine yE h (fun e5 p9 g h=>?_) fun e6 p10 g h=>?_
 obtain⟨l,s,h⟩:=Ab h
 cases h
 exact rt 1 [(7,fm (ih_parse_parser_expr _ hn _ _ (.ok e5 p9) g)),(0,fB AZ s)] a
 cases h
 exact rp 1 [(7,Mm (ih_parse_parser_expr _ hn _ _ (.pan e6 p10) g))] a
 cases h
 exact rp 1 [(1,Mm (Cd _ _ (.pan e4 p8) f))] a
 cases h
 exact rp 1 [(3,Mm (ih_parse_parser_expr _ hn _ _ (.pan e3 p6) c))] a
 cases h
 exact rp 1 [(2,Mm (ih_parse_parser_level _ hn _ _ _ (.pan e2 p4) b))] a
 cases h
 exact rp 1 [(2,Mm (Ce _ _ _ (.pan e p2) j))] a
theorem Lt (n0:Nat)
 (ih_parse_parser_expr:∀ m,m<=n0->∀ (p:Ad) (depth:Int) (r:(Ex Ar Ad Af)),AL m p depth=some r->Lb r (fun v0 s0=>DP Tryz.prog 146 [iP depth] [hT p.l,iP p.forms] (.ret (.agg (kX v0))) [hT s0.l,iP s0.forms]) (fun e0 s0=>DP Tryz.prog 146 [iP depth] [hT p.l,iP p.forms] (.pan [{ v:=.iface 188 (.agg #[(.int .i64 e0.At),(.int .i64 e0.E)]),recovered:=false }]) [hT s0.l,iP s0.forms]))
 (ih_parse_parser_level:∀ m,m<=n0->∀ (p:Ad) (n_:Int) (depth:Int) (r:(Ex Ar Ad Af)),Ba m p n_ depth=some r->Lb r (fun v0 s0=>DP Tryz.prog 163 [iP n_,iP depth] [hT p.l,iP p.forms] (.ret (.agg (kX v0))) [hT s0.l,iP s0.forms]) (fun e0 s0=>DP Tryz.prog 163 [iP n_,iP depth] [hT p.l,iP p.forms] (.pan [{ v:=.iface 188 (.agg #[(.int .i64 e0.At),(.int .i64 e0.E)]),recovered:=false }]) [hT s0.l,iP s0.forms]))
 (ih_parse_parser_neg:∀ m,m<=n0->∀ (p:Ad) (depth:Int) (r:(Ex Ar Ad Af)),B9 m p depth=some r->Lb r (fun v0 s0=>DP Tryz.prog 172 [iP depth] [hT p.l,iP p.forms] (.ret (.agg (kX v0))) [hT s0.l,iP s0.forms]) (fun e0 s0=>DP Tryz.prog 172 [iP depth] [hT p.l,iP p.forms] (.pan [{ v:=.iface 188 (.agg #[(.int .i64 e0.At),(.int .i64 e0.E)]),recovered:=false }]) [hT s0.l,iP s0.forms]))
 (ih_parse_parser_atom:∀ m,m<=n0->∀ (p:Ad) (depth:Int) (r:(Ex Ar Ad Af)),BB m p depth=some r->Lb r (fun v0 s0=>DP Tryz.prog 183 [iP depth] [hT p.l,iP p.forms] (.ret (.agg (kX v0))) [hT s0.l,iP s0.forms]) (fun e0 s0=>DP Tryz.prog 183 [iP depth] [hT p.l,iP p.forms] (.pan [{ v:=.iface 188 (.agg #[(.int .i64 e0.At),(.int .i64 e0.E)]),recovered:=false }]) [hT s0.l,iP s0.forms]))
 (n:Nat) (hn:n<=n0) (p:Ad) (n_:Int) (depth:Int) (r:(Ex Ar Ad Af)) (h:Ba (n+1) p n_ depth=some r):Lb r (fun v0 s0=>DP Tryz.prog 163 [iP n_,iP depth] [hT p.l,iP p.forms] (.ret (.agg (kX v0))) [hT s0.l,iP s0.forms]) (fun e0 s0=>DP Tryz.prog 163 [iP n_,iP depth] [hT p.l,iP p.forms] (.pan [{ v:=.iface 188 (.agg #[(.int .i64 e0.At),(.int .i64 e0.E)]),recovered:=false }]) [hT s0.l,iP s0.forms]):=by
 replace h:=(Ba.eq_2 ..).symm.trans h
 refine vMx ⟨[0,1,2,3,4,6,7,8,9,11,13,31,44,64],[(14,[9999,1,0,1,5,6,7,8,9,10,11,0,2,3,4,12,13,14,15])]⟩ Tryz.func163 follows fun Q a=>?_
 refine mI 2 [] h (fun n_1=>⟨[(2,iP depth),(3,.ptr 1 0),(4,.ptr 2 0),(6,.ptr 3 0)],[[hT p.l,iP p.forms],[.ptr 0 0],[iP n_1],[iP 0,iP 0,tP ⟨#[]⟩,.sl [] .own,iP 0]]⟩) ?_ fun y e h hJ=>?_
 rintro n_1 h
 refine cD 1 [] h (fun t h=>?_) fun t h=>?_
 refine yE h (fun n_2 p1 c h=>?_) fun e1 p2 c h=>?_
 cases h
 exact rt 1 [(2,fm (ih_parse_parser_neg _ hn _ _ (.ok n_2 p1) c))] a
 cases h
 exact rp 1 [(2,Mm (ih_parse_parser_neg _ hn _ _ (.pan e1 p2) c))] a
 refine yE h (fun e2 p3 f h=>?_) fun e3 p4 f h=>?_
 refine lR 2 [(4,fm (ih_parse_parser_level _ hn _ _ _ (.ok e2 p3) f))] (A:=((List Aq)×Int×Int×Int×ByteArray×(List Af))) (fun n (p5,p6,e4,e5,e6,e7)=>Ed n n_1 e2 depth p5 p6 e4 e5 e6 e7) (fun (p5,p6,e4,e5,e6,e7)=>⟨[(2,iP depth),(3,.ptr 1 0),(4,.ptr 2 0),(6,.ptr 3 0),(8,.ptr 4 0)],[[hT p5,iP p6],[.ptr 0 0],[iP n_1],[iP 0,iP 0,tP ⟨#[]⟩,.sl [] .own,iP 0],[iP e4,iP e5,tP e6,hX e7,iP e2.At]]⟩) (p3.l,p3.forms,e2.Op,e2.N,e2.S,e2.Kids) hn h (fun _=>rfl) ?_
 rintro n ⟨p5,p6,e4,e5,e6,e7⟩ hn h ih
 replace h:=(Ed.eq_2 ..).symm.trans h
 obtain⟨o_,u,h⟩:=Ab h
 obtain⟨k,G,h⟩:=Ab h
 refine cD 3 [(0,fk (HI _ u)),(1,fs (Iv _ _ _ _ _ _ _ _ _ _ _ _ _ _ _ _ G))] h (fun w h=>?_) fun w h=>?_
 cases h
 exact rt 1 [] a
 obtain⟨n_3,q,h⟩:=Ab h
 obtain⟨o_1,b,h⟩:=Ab h
 obtain⟨x,F,h⟩:=Ab h
 refine wl 1 [(1,fm (AK _ _ q))] ?_
 refine yE h (fun l p7 g h=>?_) fun e8 p8 g h=>?_
 obtain⟨l1,z,h⟩:=Ab h
 refine cD 2 [(8,fk (HI _ b)),(0,fi Fs F),(2,fm (ih_parse_parser_level _ hn _ _ _ (.ok l p7) g)),(0,fB AZ z)] h (fun H h=>?_) fun H h=>?_
 cases h
 exact rt 1 [] a
 exact mJ 0 [] (ih (_,_,_,_,_,_) h)
 cases h
 exact rp 1 [(8,fk (HI _ b)),(0,fi Fs F),(2,Mm (ih_parse_parser_level _ hn _ _ _ (.pan e8 p8) g))] a
 cases h
 exact rp 1 [(4,Mm (ih_parse_parser_level _ hn _ _ _ (.pan e3 p4) f))] a
 refine cD 0 [] e (fun B e=>?_) fun B e=>?_
 obtain⟨i,I,e⟩:=Ab e
 refine cD 1 [(1,fm (AW _ _ _ I))] e (fun C e=>?_) fun C e=>?_
 obtain⟨n_4,s,e⟩:=Ab e
 refine wl 1 [(1,fm (AK _ _ s))] ?_
 refine yE e (fun d p9 j e=>?_) fun e9 p10 j e=>?_
 refine wl 1 [(3,fm (Ce _ _ _ (.ok d p9) j))] ?_
 refine yE e (fun l2 p11 o e=>?_) fun e10 p12 o e=>?_
 obtain⟨l3,D,e⟩:=Ab e
 cases e
 cases h
 exact rt 1 [(4,fm (ih_parse_parser_level _ hn _ _ _ (.ok l2 p11) o)),(0,fB AZ D)] a
 cases e
 cases h
 exact rp 1 [(4,Mm (ih_parse_parser_level _ hn _ _ _ (.pan e10 p12) o))] a
 cases e
 cases h
 exact rp 1 [(3,Mm (Ce _ _ _ (.pan e9 p10) j))] a
 exact mJ 1 [] (hJ _ (oj e))
 exact mJ 0 [] (hJ _ (oj e))
theorem MO (n0:Nat)
 (ih_parse_parser_expr:∀ m,m<=n0->∀ (p:Ad) (depth:Int) (r:(Ex Ar Ad Af)),AL m p depth=some r->Lb r (fun v0 s0=>DP Tryz.prog 146 [iP depth] [hT p.l,iP p.forms] (.ret (.agg (kX v0))) [hT s0.l,iP s0.forms]) (fun e0 s0=>DP Tryz.prog 146 [iP depth] [hT p.l,iP p.forms] (.pan [{ v:=.iface 188 (.agg #[(.int .i64 e0.At),(.int .i64 e0.E)]),recovered:=false }]) [hT s0.l,iP s0.forms]))
 (ih_parse_parser_level:∀ m,m<=n0->∀ (p:Ad) (n_:Int) (depth:Int) (r:(Ex Ar Ad Af)),Ba m p n_ depth=some r->Lb r (fun v0 s0=>DP Tryz.prog 163 [iP n_,iP depth] [hT p.l,iP p.forms] (.ret (.agg (kX v0))) [hT s0.l,iP s0.forms]) (fun e0 s0=>DP Tryz.prog 163 [iP n_,iP depth] [hT p.l,iP p.forms] (.pan [{ v:=.iface 188 (.agg #[(.int .i64 e0.At),(.int .i64 e0.E)]),recovered:=false }]) [hT s0.l,iP s0.forms]))
 (ih_parse_parser_neg:∀ m,m<=n0->∀ (p:Ad) (depth:Int) (r:(Ex Ar Ad Af)),B9 m p depth=some r->Lb r (fun v0 s0=>DP Tryz.prog 172 [iP depth] [hT p.l,iP p.forms] (.ret (.agg (kX v0))) [hT s0.l,iP s0.forms]) (fun e0 s0=>DP Tryz.prog 172 [iP depth] [hT p.l,iP p.forms] (.pan [{ v:=.iface 188 (.agg #[(.int .i64 e0.At),(.int .i64 e0.E)]),recovered:=false }]) [hT s0.l,iP s0.forms]))
 (ih_parse_parser_atom:∀ m,m<=n0->∀ (p:Ad) (depth:Int) (r:(Ex Ar Ad Af)),BB m p depth=some r->Lb r (fun v0 s0=>DP Tryz.prog 183 [iP depth] [hT p.l,iP p.forms] (.ret (.agg (kX v0))) [hT s0.l,iP s0.forms]) (fun e0 s0=>DP Tryz.prog 183 [iP depth] [hT p.l,iP p.forms] (.pan [{ v:=.iface 188 (.agg #[(.int .i64 e0.At),(.int .i64 e0.E)]),recovered:=false }]) [hT s0.l,iP s0.forms]))
 (n:Nat) (hn:n<=n0) (p:Ad) (depth:Int) (r:(Ex Ar Ad Af)) (h:B9 (n+1) p depth=some r):Lb r (fun v0 s0=>DP Tryz.prog 172 [iP depth] [hT p.l,iP p.forms] (.ret (.agg (kX v0))) [hT s0.l,iP s0.forms]) (fun e0 s0=>DP Tryz.prog 172 [iP depth] [hT p.l,iP p.forms] (.pan [{ v:=.iface 188 (.agg #[(.int .i64 e0.At),(.int .i64 e0.E)]),recovered:=false }]) [hT s0.l,iP s0.forms]):=by
 replace h:=(B9.eq_2 ..).symm.trans h
 refine vMx ⟨[0,1,4,5,8],[]⟩ Tryz.func172 follows fun Q c=>?_
 obtain⟨i,j,h⟩:=Ab h
 refine cD 2 [(2,fm (AW _ _ _ j))] h (fun k h=>?_) fun k h=>?_
 refine yE h (fun a_ p1 f h=>?_) fun e p2 f h=>?_
 cases h
 exact rt 1 [(2,fm (ih_parse_parser_atom _ hn _ _ (.ok a_ p1) f))] c
 cases h
 exact rp 1 [(2,Mm (ih_parse_parser_atom _ hn _ _ (.pan e p2) f))] c
 obtain⟨n_,g,h⟩:=Ab h
 refine wl 1 [(1,fm (AK _ _ g))] ?_
 refine yE h (fun d p3 a h=>?_) fun e1 p4 a h=>?_
 refine wl 1 [(3,fm (Ce _ _ _ (.ok d p3) a))] ?_
 refine yE h (fun n_1 p5 b h=>?_) fun e2 p6 b h=>?_
 obtain⟨l,o,h⟩:=Ab h
 cases h
 exact rt 1 [(4,fm (ih_parse_parser_neg _ hn _ _ (.ok n_1 p5) b)),(0,fB AZ o)] c
 cases h
 exact rp 1 [(4,Mm (ih_parse_parser_neg _ hn _ _ (.pan e2 p6) b))] c
 cases h
 exact rp 1 [(3,Mm (Ce _ _ _ (.pan e1 p4) a))] c
theorem LI (n0:Nat)
 (ih_parse_parser_expr:∀ m,m<=n0->∀ (p:Ad) (depth:Int) (r:(Ex Ar Ad Af)),AL m p depth=some r->Lb r (fun v0 s0=>DP Tryz.prog 146 [iP depth] [hT p.l,iP p.forms] (.ret (.agg (kX v0))) [hT s0.l,iP s0.forms]) (fun e0 s0=>DP Tryz.prog 146 [iP depth] [hT p.l,iP p.forms] (.pan [{ v:=.iface 188 (.agg #[(.int .i64 e0.At),(.int .i64 e0.E)]),recovered:=false }]) [hT s0.l,iP s0.forms]))
 (ih_parse_parser_level:∀ m,m<=n0->∀ (p:Ad) (n_:Int) (depth:Int) (r:(Ex Ar Ad Af)),Ba m p n_ depth=some r->Lb r (fun v0 s0=>DP Tryz.prog 163 [iP n_,iP depth] [hT p.l,iP p.forms] (.ret (.agg (kX v0))) [hT s0.l,iP s0.forms]) (fun e0 s0=>DP Tryz.prog 163 [iP n_,iP depth] [hT p.l,iP p.forms] (.pan [{ v:=.iface 188 (.agg #[(.int .i64 e0.At),(.int .i64 e0.E)]),recovered:=false }]) [hT s0.l,iP s0.forms]))
 (ih_parse_parser_neg:∀ m,m<=n0->∀ (p:Ad) (depth:Int) (r:(Ex Ar Ad Af)),B9 m p depth=some r->Lb r (fun v0 s0=>DP Tryz.prog 172 [iP depth] [hT p.l,iP p.forms] (.ret (.agg (kX v0))) [hT s0.l,iP s0.forms]) (fun e0 s0=>DP Tryz.prog 172 [iP depth] [hT p.l,iP p.forms] (.pan [{ v:=.iface 188 (.agg #[(.int .i64 e0.At),(.int .i64 e0.E)]),recovered:=false }]) [hT s0.l,iP s0.forms]))
 (ih_parse_parser_atom:∀ m,m<=n0->∀ (p:Ad) (depth:Int) (r:(Ex Ar Ad Af)),BB m p depth=some r->Lb r (fun v0 s0=>DP Tryz.prog 183 [iP depth] [hT p.l,iP p.forms] (.ret (.agg (kX v0))) [hT s0.l,iP s0.forms]) (fun e0 s0=>DP Tryz.prog 183 [iP depth] [hT p.l,iP p.forms] (.pan [{ v:=.iface 188 (.agg #[(.int .i64 e0.At),(.int .i64 e0.E)]),recovered:=false }]) [hT s0.l,iP s0.forms]))
 (n:Nat) (hn:n<=n0) (p:Ad) (depth:Int) (r:(Ex Ar Ad Af)) (h:BB (n+1) p depth=some r):Lb r (fun v0 s0=>DP Tryz.prog 183 [iP depth] [hT p.l,iP p.forms] (.ret (.agg (kX v0))) [hT s0.l,iP s0.forms]) (fun e0 s0=>DP Tryz.prog 183 [iP depth] [hT p.l,iP p.forms] (.pan [{ v:=.iface 188 (.agg #[(.int .i64 e0.At),(.int .i64 e0.E)]),recovered:=false }]) [hT s0.l,iP s0.forms]):=by
 replace h:=(BB.eq_2 ..).symm.trans h
 refine vMx ⟨[0,1,4,5,6,9,22,29,32,35,40,46,50,56],[(23,[9999,1,0,0,1,2,3,4,5,6,7,8,9])]⟩ Tryz.func183 follows fun Q a=>?_
 obtain⟨b,hb,h⟩:=Ab h
 refine mI 2 [(2,fm (C7 _ _ hb))] h (fun (p1,p2)=>⟨[(0,.ptr 0 0),(1,iP depth),(4,.ptr 1 0)],[[hT p1,iP p2],[iP 0,iP 0,tP ⟨#[]⟩,.sl [] .own,iP 0]]⟩) ?_ fun y e h hJ=>?_
 rintro⟨p1,p2⟩ h
 obtain⟨t,P,h⟩:=Ab h
 refine cD 5 [(1,fm (AK _ _ P))] h (fun z h=>?_) fun z h=>?_
 cases h
 exact rt 2 [] a
 refine cD 1 [] h (fun B h=>?_) fun B h=>?_
 cases h
 exact rt 2 [] a
 refine cD 1 [] h (fun C h=>?_) fun C h=>?_
 obtain⟨i,R,h⟩:=Ab h
 refine cD 2 [(3,fm (AW _ _ _ R))] h (fun D h=>?_) fun D h=>?_
 cases h
 exact rt 2 [] a
 obtain⟨n_,F,h⟩:=Ab h
 refine mI 2 [(3,fm (AK _ _ F))] h (fun (p3,p4,e1)=>⟨[(0,.ptr 0 0),(4,.ptr 1 0),(6,.ptr 3 0)],[[hT p3,iP p4],[iP 0,iP 0,tP ⟨#[]⟩,.sl [] .own,iP 0],[iP t.1.Kind,iP t.1.At,tP t.1.S,iP t.1.N],[iP 4,iP t.1.N,tP t.1.S,oX e1,iP t.1.At]]⟩) ?_ fun y1 e2 h G=>?_
 rintro⟨p3,p4,e1⟩ h
 obtain⟨n_1,w,h⟩:=Ab h
 cases h
 exact rt 2 [(1,fm (AK _ _ w))] a
 refine lR 1 [] (A:=((List Aq)×Int×(List Af))) (fun n (p5,p6,e3)=>Dr n depth p5 p6 e3) (fun (p5,p6,e3)=>⟨[(0,.ptr 0 0),(1,iP depth),(4,.ptr 1 0),(6,.ptr 3 0)],[[hT p5,iP p6],[iP 0,iP 0,tP ⟨#[]⟩,.sl [] .own,iP 0],[iP t.1.Kind,iP t.1.At,tP t.1.S,iP t.1.N],[iP 4,iP t.1.N,tP t.1.S,oX e3,iP t.1.At]]⟩) (n_.2.l,n_.2.forms,[]) hn e2 (fun _=>rfl) ?_
 rintro n ⟨p5,p6,e3⟩ hn e2 ih
 replace e2:=(Dr.eq_2 ..).symm.trans e2
 obtain⟨i1,H,e2⟩:=Ab e2
 refine cD 1 [(1,fm (AW _ _ _ H))] e2 (fun I e2=>?_) fun I e2=>?_
 refine mI 2 [(2,fl AZ e3)] e2 (fun (p7,p8)=>⟨[(0,.ptr 0 0),(1,iP depth),(4,.ptr 1 0),(6,.ptr 3 0)],[[hT p7,iP p8],[iP 0,iP 0,tP ⟨#[]⟩,.sl [] .own,iP 0],[iP t.1.Kind,iP t.1.At,tP t.1.S,iP t.1.N],[iP 4,iP t.1.N,tP t.1.S,oX e3,iP t.1.At]]⟩) ?_ fun y2 e4 e2 x=>?_
 rintro⟨p7,p8⟩ e2
 refine cD 1 [(2,fl AZ e3)] e2 (fun T e2=>?_) fun T e2=>?_
 refine yE e2 (fun d p9 g e2=>?_) fun e5 p10 g e2=>?_
 refine wl 1 [(1,fm (Ce _ _ _ (.ok d p9) g))] ?_
 refine yE e2 (fun f p11 j e2=>?_) fun e6 p12 j e2=>?_
 refine wl 1 [(1,fm (Ay _ _ (.ok f p11) j))] ?_
 refine yE e2 (fun e7 p13 k e2=>?_) fun e8 p14 k e2=>?_
 obtain⟨l,U,e2⟩:=Ab e2
 obtain⟨l1,J,e2⟩:=Ab e2
 exact mJ 1 [(5,fm (ih_parse_parser_expr _ hn _ _ (.ok e7 p13) k)),(0,fB AZ U),(0,fa AZ J)] (ih (_,_,_) e2)
 cases e2
 cases h
 exact rp 1 [(5,Mm (ih_parse_parser_expr _ hn _ _ (.pan e8 p14) k))] a
 cases e2
 cases h
 exact rp 1 [(1,Mm (Ay _ _ (.pan e6 p12) j))] a
 cases e2
 cases h
 exact rp 1 [(1,Mm (Ce _ _ _ (.pan e5 p10) g))] a
 refine yE e2 (fun e9 p15 o e2=>?_) fun e10 p16 o e2=>?_
 obtain⟨l2,K,e2⟩:=Ab e2
 obtain⟨l3,L,e2⟩:=Ab e2
 exact mJ 1 [(5,fm (ih_parse_parser_expr _ hn _ _ (.ok e9 p15) o)),(0,fB AZ K),(0,fa AZ L)] (ih (_,_,_) e2)
 cases e2
 cases h
 exact rp 1 [(5,Mm (ih_parse_parser_expr _ hn _ _ (.pan e10 p16) o))] a
 refine cD 0 [] e4 (fun M e4=>?_) fun M e4=>?_
 refine yE e4 (fun n_2 p17 q e4=>?_) fun e11 p18 q e4=>?_
 exact mJ 1 [(1,fm (Cd _ _ (.ok n_2 p17) q))] (x _ (oj e4))
 cases e4
 cases e2
 cases h
 exact rp 1 [(1,Mm (Cd _ _ (.pan e11 p18) q))] a
 exact mJ 0 [] (x _ (oj e4))
 exact mJ 1 [] (G _ (oj e2))
 refine yE h (fun e12 p19 s h=>?_) fun e13 p20 s h=>?_
 refine wl 1 [(3,fm (ih_parse_parser_expr _ hn _ _ (.ok e12 p19) s))] ?_
 refine yE h (fun n_3 p21 u h=>?_) fun e14 p22 u h=>?_
 cases h
 exact rt 2 [(1,fm (Cd _ _ (.ok n_3 p21) u))] a
 cases h
 exact rp 1 [(1,Mm (Cd _ _ (.pan e14 p22) u))] a
 cases h
 exact rp 1 [(3,Mm (ih_parse_parser_expr _ hn _ _ (.pan e13 p20) s))] a
 refine cD 0 [] e (fun O e=>?_) fun O e=>?_
 refine yE e (fun f1 p23 c e=>?_) fun e15 p24 c e=>?_
 exact mJ 1 [(1,fm (Ay _ _ (.ok f1 p23) c))] (hJ _ (oj e))
 cases e
 cases h
 exact rp 1 [(1,Mm (Ay _ _ (.pan e15 p24) c))] a
 exact mJ 0 [] (hJ _ (oj e))
theorem HF:∀ n:Nat,(∀ m,m<=n->∀ (p:Ad) (depth:Int) (r:(Ex Ar Ad Af)),AL m p depth=some r->Lb r (fun v0 s0=>DP Tryz.prog 146 [iP depth] [hT p.l,iP p.forms] (.ret (.agg (kX v0))) [hT s0.l,iP s0.forms]) (fun e0 s0=>DP Tryz.prog 146 [iP depth] [hT p.l,iP p.forms] (.pan [{ v:=.iface 188 (.agg #[(.int .i64 e0.At),(.int .i64 e0.E)]),recovered:=false }]) [hT s0.l,iP s0.forms]))/\(∀ m,m<=n->∀ (p:Ad) (n_:Int) (depth:Int) (r:(Ex Ar Ad Af)),Ba m p n_ depth=some r->Lb r (fun v0 s0=>DP Tryz.prog 163 [iP n_,iP depth] [hT p.l,iP p.forms] (.ret (.agg (kX v0))) [hT s0.l,iP s0.forms]) (fun e0 s0=>DP Tryz.prog 163 [iP n_,iP depth] [hT p.l,iP p.forms] (.pan [{ v:=.iface 188 (.agg #[(.int .i64 e0.At),(.int .i64 e0.E)]),recovered:=false }]) [hT s0.l,iP s0.forms]))/\(∀ m,m<=n->∀ (p:Ad) (depth:Int) (r:(Ex Ar Ad Af)),B9 m p depth=some r->Lb r (fun v0 s0=>DP Tryz.prog 172 [iP depth] [hT p.l,iP p.forms] (.ret (.agg (kX v0))) [hT s0.l,iP s0.forms]) (fun e0 s0=>DP Tryz.prog 172 [iP depth] [hT p.l,iP p.forms] (.pan [{ v:=.iface 188 (.agg #[(.int .i64 e0.At),(.int .i64 e0.E)]),recovered:=false }]) [hT s0.l,iP s0.forms]))/\(∀ m,m<=n->∀ (p:Ad) (depth:Int) (r:(Ex Ar Ad Af)),BB m p depth=some r->Lb r (fun v0 s0=>DP Tryz.prog 183 [iP depth] [hT p.l,iP p.forms] (.ret (.agg (kX v0))) [hT s0.l,iP s0.forms]) (fun e0 s0=>DP Tryz.prog 183 [iP depth] [hT p.l,iP p.forms] (.pan [{ v:=.iface 188 (.agg #[(.int .i64 e0.At),(.int .i64 e0.E)]),recovered:=false }]) [hT s0.l,iP s0.forms]))
 |0=>⟨(fun m hm p depth r h=>by
  obtain rfl:m=0:=by omega
  exact absurd h (by simp [AL])),
  (fun m hm p n_ depth r h=>by
   obtain rfl:m=0:=by omega
   exact absurd h (by simp [Ba])),
  (fun m hm p depth r h=>by
   obtain rfl:m=0:=by omega
   exact absurd h (by simp [B9])),
  (fun m hm p depth r h=>by
   obtain rfl:m=0:=by omega
   exact absurd h (by simp [BB]))⟩
 |n+1=>by
  have ih:=HF n
  exact⟨fun m hm p depth r h=>by
   cases m with
   |zero=>exact absurd h (by simp [AL])
   |succ m=>exact LH n (ih.1) (ih.2.1) (ih.2.2.1) (ih.2.2.2) m (by omega) p depth _ h,
  fun m hm p n_ depth r h=>by
   cases m with
   |zero=>exact absurd h (by simp [Ba])
   |succ m=>exact Lt n (ih.1) (ih.2.1) (ih.2.2.1) (ih.2.2.2) m (by omega) p n_ depth _ h,
  fun m hm p depth r h=>by
   cases m with
   |zero=>exact absurd h (by simp [B9])
   |succ m=>exact MO n (ih.1) (ih.2.1) (ih.2.2.1) (ih.2.2.2) m (by omega) p depth _ h,
  fun m hm p depth r h=>by
   cases m with
   |zero=>exact absurd h (by simp [BB])
   |succ m=>exact LI n (ih.1) (ih.2.1) (ih.2.2.1) (ih.2.2.2) m (by omega) p depth _ h⟩
theorem Jc (n:Nat)(p:Ad)(depth:Int)(r:(Ex Ar Ad Af))(h:AL n p depth=some r):Lb r (fun v0 s0=>DP Tryz.prog 146 [iP depth] [hT p.l,iP p.forms] (.ret (.agg (kX v0))) [hT s0.l,iP s0.forms]) (fun e0 s0=>DP Tryz.prog 146 [iP depth] [hT p.l,iP p.forms] (.pan [{ v:=.iface 188 (.agg #[(.int .i64 e0.At),(.int .i64 e0.E)]),recovered:=false }]) [hT s0.l,iP s0.forms]) :=
 (HF n).1 n (ä _) p depth r h
theorem FH (n:Nat)(p:Ad)(r:(Ex Ar Ad B6))(h:Gr n p=some r):Lb r (fun v0 s0=>DP Tryz.prog 118 [] [hT p.l,iP p.forms] (.ret (.agg (kA v0))) [hT s0.l,iP s0.forms]) (fun e0 s0=>DP Tryz.prog 118 [] [hT p.l,iP p.forms] (.pan [{ v:=.iface 188 (.agg #[(.int .i64 e0.At),(.int .i64 e0.E)]),recovered:=false }]) [hT s0.l,iP s0.forms]):=by
 unfold Gr at h
 refine vMx ⟨[0,2,3,4,15,18,19,26,29,37,40,43],[]⟩ Tryz.func118 follows fun Q a=>?_
 obtain⟨t,m,h⟩:=Ab h
 refine cD 6 [(2,fm (AK _ _ m))] h (fun d h=>?_) fun d h=>?_
 cases h
 exact rt 2 [] a
 refine cD 1 [] h (fun f h=>?_) fun f h=>?_
 cases h
 exact rt 2 [] a
 refine cD 1 [] h (fun g h=>?_) fun g h=>?_
 cases h
 exact rt 2 [] a
 refine cD 4 [] h (fun i h=>?_) fun i h=>?_
 refine yE h (fun n_ p1 j h=>?_) fun e p2 j h=>?_
 cases h
 exact rt 2 [(1,fm (Ie _ (.ok n_ p1) j))] a
 cases h
 exact rp 1 [(1,Mm (Ie _ (.pan e p2) j))] a
 refine cD 1 [] h (fun k h=>?_) fun k h=>?_
 cases h
 exact rt 2 [] a
 refine cD 1 [] h (fun o h=>?_) fun o h=>?_
 refine yE h (fun e1 p3 b h=>?_) fun e2 p4 b h=>?_
 refine wl 1 [(1,fm (Jc _ _ _ (.ok e1 p3) b))] ?_
 refine yE h (fun n_1 p5 c h=>?_) fun e3 p6 c h=>?_
 cases h
 exact rt 2 [(1,fm (Cd _ _ (.ok n_1 p5) c))] a
 cases h
 exact rp 1 [(1,Mm (Cd _ _ (.pan e3 p6) c))] a
 cases h
 exact rp 1 [(1,Mm (Jc _ _ _ (.pan e2 p4) b))] a
 cases h
 exact rt 1 [] a
theorem LG (n0:Nat)
 (ih_parse_parser_form:∀ m,m<=n0->∀ (p:Ad) (depth:Int) (r:(Ex Ar Ad Ax)),Cb m p depth=some r->Lb r (fun v0 s0=>DP Tryz.prog 70 [iP depth] [hT p.l,iP p.forms] (.ret (.agg (kF v0))) [hT s0.l,iP s0.forms]) (fun e0 s0=>DP Tryz.prog 70 [iP depth] [hT p.l,iP p.forms] (.pan [{ v:=.iface 188 (.agg #[(.int .i64 e0.At),(.int .i64 e0.E)]),recovered:=false }]) [hT s0.l,iP s0.forms]))
 (n:Nat) (hn:n<=n0) (p:Ad) (depth:Int) (r:(Ex Ar Ad Ax)) (h:Cb (n+1) p depth=some r):Lb r (fun v0 s0=>DP Tryz.prog 70 [iP depth] [hT p.l,iP p.forms] (.ret (.agg (kF v0))) [hT s0.l,iP s0.forms]) (fun e0 s0=>DP Tryz.prog 70 [iP depth] [hT p.l,iP p.forms] (.pan [{ v:=.iface 188 (.agg #[(.int .i64 e0.At),(.int .i64 e0.E)]),recovered:=false }]) [hT s0.l,iP s0.forms]):=by
 replace h:=(Cb.eq_2 ..).symm.trans h
 refine vMx ⟨[0,1,4,5,6,14,32,49,57,63,76,80],[(13,[9999,1,0,0,1,2,3,4,5,6,7]),(17,[9999,1,0,0,1,2,3,4,5,6,7,8,9])]⟩ Tryz.func70 follows fun Q k=>?_
 obtain⟨x,hx,h⟩:=Ab h
 refine mI 2 [(5,fi Cy hx)] h (fun (p1,p2)=>⟨[(0,.ptr 0 0),(1,iP depth),(4,.ptr 1 0)],[[hT p1,iP p2],[tP ⟨#[]⟩,.sl [] .own,.sl [] .own,iP 0]]⟩) ?_ fun y e h hJ=>?_
 rintro⟨p1,p2⟩ h
 refine mE 1 [] h (fun v32=>⟨[(0,.ptr 0 0),(1,iP depth),(4,.ptr 1 0),(32,bP v32)],[[hT p1,iP (À (p2+1))],[tP ⟨#[]⟩,.sl [] .own,.sl [] .own,iP 0]]⟩) ?_ fun y1 e1 z=>?_
 rintro v32 h
 refine mI 0 [] h (fun (p3,p4)=>⟨[(0,.ptr 0 0),(1,iP depth),(4,.ptr 1 0)],[[hT p3,iP p4],[tP ⟨#[]⟩,.sl [] .own,.sl [] .own,iP 0]]⟩) ?_ fun y2 e2 h B=>?_
 rintro⟨p3,p4⟩ h
 obtain⟨t,ht,h⟩:=Ab h
 refine mI 2 [(1,fm (AK _ _ ht))] h (fun (p5,p6,f)=>⟨[(0,.ptr 0 0),(1,iP depth),(4,.ptr 1 0),(6,.ptr 3 0)],[[hT p5,iP p6],[tP ⟨#[]⟩,.sl [] .own,.sl [] .own,iP 0],[iP t.1.Kind,iP t.1.At,tP t.1.S,iP t.1.N],[tP t.1.S,oA f,.sl [] .own,iP t.1.At]]⟩) ?_ fun y3 e3 h J=>?_
 rintro⟨p5,p6,f⟩ h
 obtain⟨n_,K,h⟩:=Ab h
 refine cD 1 [(1,fm (AK _ _ K))] h (fun L h=>?_) fun L h=>?_
 cases h
 exact rt 1 [] k
 refine mI 0 [] h (fun (p7,p8,f1)=>⟨[(0,.ptr 0 0),(4,.ptr 1 0),(6,.ptr 3 0)],[[hT p7,iP p8],[tP ⟨#[]⟩,.sl [] .own,.sl [] .own,iP 0],[iP t.1.Kind,iP t.1.At,tP t.1.S,iP t.1.N],[tP t.1.S,oA f,oF f1,iP t.1.At]]⟩) ?_ fun y4 e4 h M=>?_
 rintro⟨p7,p8,f1⟩ h
 obtain⟨n_1,C,h⟩:=Ab h
 cases h
 exact rt 2 [(1,fm (AK _ _ C))] k
 refine lR 1 [] (A:=((List Aq)×Int×(List Ax))) (fun n (p9,p10,f2)=>E0 n depth p9 p10 f2) (fun (p9,p10,f2)=>⟨[(0,.ptr 0 0),(1,iP depth),(4,.ptr 1 0),(6,.ptr 3 0)],[[hT p9,iP p10],[tP ⟨#[]⟩,.sl [] .own,.sl [] .own,iP 0],[iP t.1.Kind,iP t.1.At,tP t.1.S,iP t.1.N],[tP t.1.S,oA f,oF f2,iP t.1.At]]⟩) (n_.2.l,n_.2.forms,[]) hn e4 (fun _=>rfl) ?_
 rintro n ⟨p9,p10,f2⟩ hn e4 ih
 replace e4:=(E0.eq_2 ..).symm.trans e4
 obtain⟨i,hi,e4⟩:=Ab e4
 refine cD 1 [(1,fm (AW _ _ _ hi))] e4 (fun hc e4=>?_) fun hc e4=>?_
 refine wl 1 [] ?_
 refine yE e4 (fun f3 p11 o e4=>?_) fun e5 p12 o e4=>?_
 obtain⟨l,hl,e4⟩:=Ab e4
 obtain⟨l1,O,e4⟩:=Ab e4
 exact mJ 1 [(5,fm (ih_parse_parser_form _ hn _ _ (.ok f3 p11) o)),(0,fB ER hl),(0,fa ER O)] (ih (_,_,_) e4)
 cases e4
 cases h
 exact rp 1 [(5,Mm (ih_parse_parser_form _ hn _ _ (.pan e5 p12) o))] k
 exact mJ 1 [] (M _ (oj e4))
 refine lR 1 [] (A:=((List Aq)×Int×(List B6))) (fun n (p13,p14,f4)=>Dq n p13 p14 f4) (fun (p13,p14,f4)=>⟨[(0,.ptr 0 0),(1,iP depth),(4,.ptr 1 0),(6,.ptr 3 0)],[[hT p13,iP p14],[tP ⟨#[]⟩,.sl [] .own,.sl [] .own,iP 0],[iP t.1.Kind,iP t.1.At,tP t.1.S,iP t.1.N],[tP t.1.S,oA f4,.sl [] .own,iP t.1.At]]⟩) (t.2.l,t.2.forms,[]) hn e3 (fun _=>rfl) ?_
 rintro n ⟨p13,p14,f4⟩ hn e3 D
 replace e3:=(Dq.eq_2 ..).symm.trans e3
 refine mE 0 [] e3 (fun v49=>⟨[(0,.ptr 0 0),(1,iP depth),(4,.ptr 1 0),(6,.ptr 3 0),(49,bP v49)],[[hT p13,iP p14],[tP ⟨#[]⟩,.sl [] .own,.sl [] .own,iP 0],[iP t.1.Kind,iP t.1.At,tP t.1.S,iP t.1.N],[tP t.1.S,oA f4,.sl [] .own,iP t.1.At]]⟩) ?_ fun y6 e6 F=>?_
 rintro v49 e3
 refine cD 0 [] e3 (fun P e3=>?_) fun P e3=>?_
 refine mE 1 [] e3 (fun v57=>⟨[(0,.ptr 0 0),(1,iP depth),(4,.ptr 1 0),(6,.ptr 3 0),(57,bP v57)],[[hT p13,iP p14],[tP ⟨#[]⟩,.sl [] .own,.sl [] .own,iP 0],[iP t.1.Kind,iP t.1.At,tP t.1.S,iP t.1.N],[tP t.1.S,oA f4,.sl [] .own,iP t.1.At]]⟩) ?_ fun y7 e7 G=>?_
 rintro v57 e3
 refine mI 0 [] e3 (fun (p15,p16)=>⟨[(0,.ptr 0 0),(1,iP depth),(4,.ptr 1 0),(6,.ptr 3 0)],[[hT p15,iP p16],[tP ⟨#[]⟩,.sl [] .own,.sl [] .own,iP 0],[iP t.1.Kind,iP t.1.At,tP t.1.S,iP t.1.N],[tP t.1.S,oA f4,.sl [] .own,iP t.1.At]]⟩) ?_ fun y8 e8 e3 H=>?_
 rintro⟨p15,p16⟩ e3
 refine cD 1 [(2,fl Bl f4)] e3 (fun R e3=>?_) fun R e3=>?_
 refine yE e3 (fun f5 p17 q e3=>?_) fun e9 p18 q e3=>?_
 refine wl 1 [(1,fm (Ay _ _ (.ok f5 p17) q))] ?_
 refine yE e3 (fun a_ p19 a e3=>?_) fun e10 p20 a e3=>?_
 obtain⟨l2,T,e3⟩:=Ab e3
 obtain⟨l3,U,e3⟩:=Ab e3
 exact mJ 1 [(3,fm (FH _ _ (.ok a_ p19) a)),(0,fBF Bl T),(0,fa Bl U)] (D (_,_,_) e3)
 cases e3
 cases h
 exact rp 1 [(3,Mm (FH _ _ (.pan e10 p20) a))] k
 cases e3
 cases h
 exact rp 1 [(1,Mm (Ay _ _ (.pan e9 p18) q))] k
 refine yE e3 (fun a_1 p21 c e3=>?_) fun e11 p22 c e3=>?_
 obtain⟨l4,V,e3⟩:=Ab e3
 obtain⟨l5,W,e3⟩:=Ab e3
 exact mJ 1 [(3,fm (FH _ _ (.ok a_1 p21) c)),(0,fBF Bl V),(0,fa Bl W)] (D (_,_,_) e3)
 cases e3
 cases h
 exact rp 1 [(3,Mm (FH _ _ (.pan e11 p22) c))] k
 refine cD 0 [] e8 (fun X e8=>?_) fun X e8=>?_
 refine yE e8 (fun f6 p23 d e8=>?_) fun e12 p24 d e8=>?_
 exact mJ 1 [(1,fm (Ay _ _ (.ok f6 p23) d))] (H _ (oj e8))
 cases e8
 cases e3
 cases h
 exact rp 1 [(1,Mm (Ay _ _ (.pan e12 p24) d))] k
 exact mJ 0 [] (H _ (oj e8))
 obtain⟨b,hb,e7⟩:=Ab e7
 rcases Aj e7 with⟨s,e7⟩|⟨s,e7⟩
 obtain⟨i1,Y,e7⟩:=Ab e7
 exact mJ 1 [(1,fm (C7 _ _ hb)),(1,fo s),(1,fm (AW _ _ _ Y))] (G _ (oj e7))
 exact mJ 1 [(1,fm (C7 _ _ hb)),(1,fo s)] (G _ (oj e7))
 exact mJ 1 [] (J _ (oj e3))
 obtain⟨i2,I,e6⟩:=Ab e6
 rcases Aj e6 with⟨u,e6⟩|⟨u,e6⟩
 obtain⟨i3,Z,e6⟩:=Ab e6
 exact mJ 1 [(1,fm (AW _ _ _ I)),(1,fo u),(1,fm (AW _ _ _ Z))] (F _ (oj e6))
 exact mJ 1 [(1,fm (AW _ _ _ I)),(1,fo u)] (F _ (oj e6))
 refine cD 0 [] e2 (fun hc7 e2=>?_) fun hc7 e2=>?_
 refine yE e2 (fun f7 p25 g e2=>?_) fun e13 p26 g e2=>?_
 exact mJ 1 [(1,fm (Ay _ _ (.ok f7 p25) g))] (B _ (oj e2))
 cases e2
 cases h
 exact rp 1 [(1,Mm (Ay _ _ (.pan e13 p26) g))] k
 exact mJ 0 [] (B _ (oj e2))
 rcases Aj e1 with⟨w,e1⟩|⟨w,e1⟩
 exact mJ 1 [(2,fo w)] (z _ (oj e1))
 exact mJ 1 [(2,fo w)] (z _ (oj e1))
 refine cD 0 [] e (fun hc9 e=>?_) fun hc9 e=>?_
 refine yE e (fun f8 p27 j e=>?_) fun e14 p28 j e=>?_
 exact mJ 1 [(1,fm (Ay _ _ (.ok f8 p27) j))] (hJ _ (oj e))
 cases e
 cases h
 exact rp 1 [(1,Mm (Ay _ _ (.pan e14 p28) j))] k
 exact mJ 0 [] (hJ _ (oj e))
theorem HE:∀ n:Nat,(∀ m,m<=n->∀ (p:Ad) (depth:Int) (r:(Ex Ar Ad Ax)),Cb m p depth=some r->Lb r (fun v0 s0=>DP Tryz.prog 70 [iP depth] [hT p.l,iP p.forms] (.ret (.agg (kF v0))) [hT s0.l,iP s0.forms]) (fun e0 s0=>DP Tryz.prog 70 [iP depth] [hT p.l,iP p.forms] (.pan [{ v:=.iface 188 (.agg #[(.int .i64 e0.At),(.int .i64 e0.E)]),recovered:=false }]) [hT s0.l,iP s0.forms]))
 |0=>(fun m hm p depth r h=>by
  obtain rfl:m=0:=by omega
  exact absurd h (by simp [Cb]))
 |n+1=>by
  have ih:=HE n
  exact fun m hm p depth r h=>by
   cases m with
   |zero=>exact absurd h (by simp [Cb])
   |succ m=>exact LG n (ih) m (by omega) p depth _ h
theorem Fb (n:Nat)(p:Ad)(depth:Int)(r:(Ex Ar Ad Ax))(h:Cb n p depth=some r):Lb r (fun v0 s0=>DP Tryz.prog 70 [iP depth] [hT p.l,iP p.forms] (.ret (.agg (kF v0))) [hT s0.l,iP s0.forms]) (fun e0 s0=>DP Tryz.prog 70 [iP depth] [hT p.l,iP p.forms] (.pan [{ v:=.iface 188 (.agg #[(.int .i64 e0.At),(.int .i64 e0.E)]),recovered:=false }]) [hT s0.l,iP s0.forms]) :=
 (HE n) n (ä _) p depth r h
end Go.Proofs.YtehfpameijkafaaGreatDoor
namespace Go.Sp
open Go Go.Vl
set_option linter.unusedVariables false
def Xo (s:Æ)(c:Int):Option Int:=some (Lib.indexByte s.data.toList c.toNat.toUInt8)
def Aa0 (s p:Æ):Option Bool:=some (Lib.hasPrefix s.data.toList p.data.toList)
def Xp (s p:Æ):Option Bool:=match p.data.toList with | [c]=>some (decide (0<=Lib.indexByte s.data.toList c))|_=>none
def Tb:Æ:=⟨#[45,62,32,58,61,32,61,61,32,33,61,32,60,61,32,62,61,32,38,38,32,124,124,32,46,46]⟩
def Pb (s:Æ):Option (List Æ):=if s=Tb then some (Lx.long.map fun l=>⟨⟨l⟩⟩) else none
def Rh (s:Æ):Option Unit:=if s.size<=1000000 then some () else none
def Ri (s:Æ):Bool:=match Lib.atoiAll s.data.toList with|.ok _=>false|_=>true
def N7 (s:Æ):Int:=match Lib.atoiAll s.data.toList with|.ok v=>v|.range=>Lib.atoiSat s.data.toList|_=>0
structure Ao where
 src:Æ
 at_:Int
 out:(List Aq)
def Hc (c:Int):Option Int :=
 bif (c == 95) then
  some 3
 else
  ((bif (decide (97<=c)) then
   some (decide (c<=122))
  else
   some false
  ):Option Bool).bind fun v6 =>
   ((bif v6 then
    some v6
   else
    ((bif (decide (65<=c)) then
     some (decide (c<=90))
    else
     some false
    ):Option Bool).bind fun v62 =>
     some v62
   ):Option Bool).bind fun v61 =>
    bif v61 then
     some 3
    else
     ((bif (decide (48<=c)) then
      some (decide (c<=57))
     else
      some false
     ):Option Bool).bind fun v19 =>
      bif v19 then
       some 2
      else
       ((bif (c == 32) then
        some (c == 32)
       else
        bif (c == 9) then
         some (c == 9)
        else
         bif (c == 10) then
          some (c == 10)
         else
          some (c == 13)
       ):Option Bool).bind fun v26 =>
        bif v26 then
         some 1
        else
         some 0
def C8:Nat->Ao->Int->Option (Int ⊕ (Unit×Ao))
 |0,_,_=>none
 |n+1,r_,r_2 =>
  bif (decide (r_2<(r_.src.size:Int))) then
   (gb r_.src r_2).bind fun c =>
   bif (c == 35) then
    (Uq r_.src r_2 (r_.src.size:Int)).bind fun s =>
    (Xo s 10).bind fun n_ =>
    bif (decide (n_<0)) then
     C8 n r_ (À (r_2+(À ((r_.src.size:Int)-r_2))))
    else
     C8 n r_ (À (r_2+n_))
   else
    (Hc c).bind fun c1 =>
    bif (c1 == 1) then
     C8 n r_ (À (r_2+1))
    else
     some (.inr ((),(Ao.mk r_.src r_2 r_.out)))
  else
   some (.inl r_2)
def CF (n:Nat)(r_:Ao):Option (Unit×Ao) :=
 ((C8 n r_ r_.at_
 ):Option (Int ⊕ (Unit×Ao))).bind fun y=>match y with
 |.inl r_1 =>
  some ((),(Ao.mk r_.src r_1 r_.out))
 |.inr o=>some o
def E1:Nat->Ao->Int->Int->Option Int
 |0,_,_,_=>none
 |n+1,r_,least,to_1 =>
  ((bif (decide (to_1<(r_.src.size:Int))) then
   (gb r_.src to_1).bind fun c =>
   (Hc c).bind fun c1 =>
   some (decide (least<=c1))
  else
   some false
  ):Option Bool).bind fun v27 =>
   bif v27 then
    E1 n r_ least (À (to_1+1))
   else
    some to_1
def FK (n:Nat)(r_:Ao)(least:Int):Option Int :=
 ((E1 n r_ least r_.at_
 ):Option Int).bind fun to_ =>
  some to_
def BU (r_:Ao)(kind:Int)(to_:Int)(s:Æ)(n_:Int):Option (Int×Ao) :=
 (some [(Aq.mk kind r_.at_ s n_)]).bind fun l =>
 (CC 40 r_.out l).bind fun l1 =>
 some (0,(Ao.mk r_.src to_ l1))
def H0 (n:Nat)(r_:Ao):Option ((Bool×Int)×Ao) :=
 (gb r_.src r_.at_).bind fun c =>
 (Hc c).bind fun c1 =>
 bif (c1 != 3) then
  some ((false,0),r_)
 else
  (FK n r_ 2).bind fun to_ =>
  bif (decide (32<(À (to_-r_.at_)))) then
   some ((true,2),r_)
  else
   (Uq r_.src r_.at_ to_).bind fun s =>
   (BU r_ 1 to_ s 0).bind fun p =>
   some ((true,p.1),p.2)
def G6 (n:Nat)(r_:Ao):Option ((Bool×Int)×Ao) :=
 (gb r_.src r_.at_).bind fun c =>
 (Hc c).bind fun c1 =>
 bif (c1 != 2) then
  some ((false,0),r_)
 else
  (FK n r_ 2).bind fun to_ =>
  (Uq r_.src r_.at_ to_).bind fun s =>
  (Rh s).bind fun _ =>
  bif Ri s then
   some ((true,27),r_)
  else
   ((bif (decide (15<(s.size:Int))) then
    some ((N7 s),true)
   else
    bif (decide (1<(s.size:Int))) then
     (gb s 0).bind fun c2 =>
     some ((N7 s),(c2 == 48))
    else
     some ((N7 s),false)
   ):Option (Int×Bool)).bind fun y=>match y with
   |(n_,v52) =>
    bif v52 then
     some ((true,27),r_)
    else
     (BU r_ 2 to_ ⟨#[]⟩ n_).bind fun p =>
     some ((true,p.1),p.2)
def Dt:Nat->Ao->(List Int)->Int->Option (Unit ⊕ ((Bool×Int)×Ao))
 |0,_,_,_=>none
 |n+1,r_,b,k =>
  bif (decide ((b.length:Int)<=200)) then
   bif (decide ((r_.src.size:Int)<=k)) then
    some (.inr ((true,28),r_))
   else
    (gb r_.src k).bind fun c1 =>
    bif (c1 == 34) then
     (BU r_ 3 (À (k+1)) (Agd b) 0).bind fun p =>
     some (.inr ((true,p.1),p.2))
    else
     bif (c1 == 92) then
      ((bif (decide ((À (k+1))<(r_.src.size:Int))) then
       (gb r_.src (À (k+1))).bind fun c3 =>
       (Xo ⟨#[34,92,110]⟩ c3).bind fun pair1 =>
       some pair1
      else
       some (-1)
      ):Option Int).bind fun pair =>
       bif (decide (pair<0)) then
        some (.inr ((true,28),r_))
       else
        (gb ⟨#[34,92,10]⟩ pair).bind fun c2 =>
        (some [c2]).bind fun l =>
        (CC 1 b l).bind fun l1 =>
        Dt n r_ l1 (À ((À (k+1))+1))
     else
      ((bif (decide (c1<32)) then
       some true
      else
       some (decide (126<c1))
      ):Option Bool).bind fun v80 =>
       bif v80 then
        some (.inr ((true,28),r_))
       else
        (some [c1]).bind fun l2 =>
        (CC 1 b l2).bind fun l3 =>
        Dt n r_ l3 (À (k+1))
  else
   some (.inl ())
def Hy (n:Nat)(r_:Ao):Option ((Bool×Int)×Ao) :=
 (gb r_.src r_.at_).bind fun c =>
 bif (c != 34) then
  some ((false,0),r_)
 else
  ((Dt n r_ [] (À (r_.at_+1))
  ):Option (Unit ⊕ ((Bool×Int)×Ao))).bind fun y=>match y with
  |.inl _ =>
   some ((true,2),r_)
  |.inr o=>some o
def E2:Nat->(List Æ)->Æ->Ao->Int->Option (Unit ⊕ ((Bool×Int)×Ao))
 |0,_,_,_,_=>none
 |n+1,f,s,r_,v18 =>
  bif (decide (v18<(f.length:Int))) then
   (gi f v18).bind fun x =>
   (Aa0 s x).bind fun h_ =>
   bif h_ then
    (BU r_ 4 (À (r_.at_+2)) x 0).bind fun p1 =>
    some (.inr ((true,p1.1),p1.2))
   else
    E2 n f s r_ (À (v18+1))
  else
   some (.inl ())
def Hz (n:Nat)(r_:Ao):Option ((Bool×Int)×Ao) :=
 (Uq r_.src r_.at_ (r_.src.size:Int)).bind fun s =>
 (Pb ⟨#[45,62,32,58,61,32,61,61,32,33,61,32,60,61,32,62,61,32,38,38,32,124,124,32,46,46]⟩).bind fun f =>
 ((E2 n f s r_ 0
 ):Option (Unit ⊕ ((Bool×Int)×Ao))).bind fun y=>match y with
 |.inl _ =>
  (Uq s 0 1).bind fun s1 =>
  (Xp ⟨#[40,41,123,125,91,93,44,59,58,46,43,45,42,47,37,60,62,61,33,38,124,64,63,94,126]⟩ s1).bind fun c =>
  bif (!c) then
   some ((false,0),r_)
  else
   (BU r_ 4 (À (r_.at_+1)) s1 0).bind fun p =>
   some ((true,p.1),p.2)
 |.inr o=>some o
def Ci:Nat->Int->Æ->Int->(List Aq)->Option ((ByteArray×Int×(List Aq)) ⊕ (Int×Ao))
 |0,_,_,_,_=>none
 |n+1,v8,r_4,r_5,r_6 =>
  bif (v8 == 0) then
   (H0 n (Ao.mk r_4 r_5 r_6)).bind fun n_1 =>
   bif n_1.1.1 then
    some (.inr (n_1.1.2,n_1.2))
   else
    Ci n 1 n_1.2.src n_1.2.at_ n_1.2.out
  else
   bif (v8 == 1) then
    (G6 n (Ao.mk r_4 r_5 r_6)).bind fun n_ =>
    bif n_.1.1 then
     some (.inr (n_.1.2,n_.2))
    else
     Ci n 2 n_.2.src n_.2.at_ n_.2.out
   else
    bif (v8 == 2) then
     (Hy n (Ao.mk r_4 r_5 r_6)).bind fun t =>
     bif t.1.1 then
      some (.inr (t.1.2,t.2))
     else
      Ci n 3 t.2.src t.2.at_ t.2.out
    else
     bif (v8 == 3) then
      (Hz n (Ao.mk r_4 r_5 r_6)).bind fun s =>
      bif s.1.1 then
       some (.inr (s.1.2,s.2))
      else
       Ci n 4 s.2.src s.2.at_ s.2.out
     else
      bif (v8 == 4) then
       some (.inl (r_4,r_5,r_6))
      else
       none
def FL (n:Nat)(r_:Ao):Option (Int×Ao) :=
 ((Ci n 0 r_.src r_.at_ r_.out
 ):Option ((ByteArray×Int×(List Aq)) ⊕ (Int×Ao))).bind fun y=>match y with
 |.inl (r_1,r_2,r_3) =>
  some (26,(Ao.mk r_1 r_2 r_3))
 |.inr o=>some o
def BR:Nat->Æ->Æ->Int->(List Aq)->Option ((ByteArray×Int×(List Aq)) ⊕ ((List Aq)×Am))
 |0,_,_,_,_=>none
 |n+1,src,q3,q4,q5 =>
  bif (decide (q4<(src.size:Int))) then
   (FL n (Ao.mk q3 q4 q5)).bind fun e1 =>
   bif (e1.1 != 0) then
    some (.inr ([],(Am.mk e1.2.at_ e1.1)))
   else
    (CF n e1.2).bind fun s1 =>
    BR n src s1.2.src s1.2.at_ s1.2.out
  else
   some (.inl (q3,q4,q5))
def Gt (n:Nat)(src:Æ):Option ((List Aq)×Am) :=
 bif (decide (65536<(src.size:Int))) then
  some ([],(Am.mk 0 2))
 else
  (CF n (Ao.mk src 0 [])).bind fun s =>
  ((BR n src s.2.src s.2.at_ s.2.out
  ):Option ((ByteArray×Int×(List Aq)) ⊕ ((List Aq)×Am))).bind fun y=>match y with
  |.inl (q,q1,q2) =>
   (BU (Ao.mk q q1 q2) 5 (src.size:Int) ⟨#[]⟩ 0).bind fun p =>
   some (p.2.out,(Am.mk 0 0))
  |.inr o=>some o
end Go.Sp
