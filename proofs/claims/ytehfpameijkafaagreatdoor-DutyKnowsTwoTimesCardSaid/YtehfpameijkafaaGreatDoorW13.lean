/-
  The program's questions of order. The walks of duty: the stable sort. (Printed by lift.py.) Sorts of nothing. The walk of operations: whatever order the map is gone through, the table is one of the lists. (Most lines printed by lift.py.) The walks of names and made: the solver, whatever order the table of operations is in. The walks of statute: the operations: the program computes the plain functions. (Printed by lift.py.) The walks of statute: find: the program computes the plain functions. (Printed by lift.py.) The walks of statute: value: the program computes the plain functions. (Printed by lift.py.) The walks of find and value, for callers: in every order of the table. The walks of statute: Known, Check, Span: the program computes the plain functions. (Printed by lift.py.) The walks of duty: spans. (Printed by lift.py.) The walks of duty: at, breaks. (Printed by lift.py.) breaks' iterator. The walks of duty: Stretches, At, Bounds. (Printed by lift.py.) slices.Clone of spans. The walks of duty: Learned. (Printed by lift.py.) The walks of statute: operators and parser: the program computes the plain functions. (Printed by lift.py.) The lexers as plain functions; no program. (Printed by lift.py, but for the library.)
-/
import Derived.Test.YtehfpameijkafaaGreatDoorChecked
import Derived.RangeFuncBox
import Derived.Shelf.Abstract
import Derived.OwnWalkIn
import Derived.TacticsInMore
import Derived.LoopNIn
import Derived.LoopIn
import Derived.Lib.RowBridge
import Derived.Shelf.Strconv.AtoiAll
import Derived.Shelf.Strings.Fields
import Derived.Shelf.Strings.Prefix
import Derived.Test.YtehfpameijkafaaGreatDoorW4
import Derived.Test.YtehfpameijkafaaGreatDoorW6
import Derived.Test.YtehfpameijkafaaGreatDoorW8
import Derived.Test.YtehfpameijkafaaGreatDoorW11
set_option linter.unusedVariables false
set_option linter.unusedSimpArgs false
namespace Go.Proofs.YtehfpameijkafaaGreatDoor
open Go Go.Vl
theorem follows:Tryz.prog.follows .mixedOrders=true:=by kernel_rfl
end Go.Proofs.YtehfpameijkafaaGreatDoor
namespace Go.Proofs.YtehfpameijkafaaGreatDoor
open Go.RowKit Go.Q Go.Vl Go.Sp
set_option maxRecDepth 100000
set_option linter.unusedSimpArgs false
set_option maxHeartbeats 4000000
set_option linter.unusedVariables false
theorem Hx (cv1:(List Aa))(a_:Ac)(b:Ac)(r:Int)(h:Cc cv1 a_ b=some r):CA Tryz.prog 49 [.agg [iP a_.from_,iP a_.to_,iP a_.clause],.agg [iP b.from_,iP b.to_,iP b.clause],.vptr [hC cv1] 0] (iP r):=by
 unfold Cc at h
 refine vP ⟨[0,1,2,3,4,5],[(1,[9999,0,0,1,2,3,4,5,6,7,8,9,10,11,12,13])]⟩ Tryz.func49 follows fun Q hQ=>?_
 obtain⟨x,hx,h⟩:=Ae h
 obtain⟨x1,hx1,h⟩:=Ae h
 cases h
 exact rt 2 [(6,fi A7 hx),(5,fi A7 hx1)] hQ
theorem D3 (n:Nat)(cv1:(List Aa))(n_:Nat)(data:(List Ac))(a_:Int)(b:Int)(cap_ m_:Nat)(r:(List Ac))(h:A6 n cv1 n_ data a_ b=some r):J1 Tryz.prog 119 [.asl 0 0 n_ cap_,iP a_,iP b,.fno true 49 [.vptr [hC cv1] 0]] [DI (data.map Ai.vals) m_] (.ret (.tup [])) [DI (r.map Ai.vals) m_]:=by
 unfold A6 at h
 refine vS ⟨[0,1,2,3,8,9,14,34],[(4,[9999,0,0,1,2,3,4,5,6,7,8,9,10,11,12,13,14,15,16]),(6,[9999,0,0,1,2,3,4,5,6,7,8,9,10,11,12,13,14,15,16,17])]⟩ Tryz.func119 follows fun Q hQ=>?_
 refine mE 1 [] h (fun data1=>⟨[],[DI (data1.map Ai.vals) m_]⟩) ?_ fun y e hJ=>?_
 rintro data1 h
 cases h
 exact rt 0 [] hQ
 refine lF 1 [] (A:=(Int×(List Ac))) (fun n (i,data2)=>A8 n b a_ n_ cv1 i data2) (fun (i,data2)=>⟨[(0,.asl 0 0 n_ cap_),(1,iP a_),(2,iP b),(3,.fno true 49 [.vptr [hC cv1] 0]),(8,iP i)],[DI (data2.map Ai.vals) m_]⟩) ((À (a_+1)),data) e (fun _=>rfl) ?_
 rintro n ⟨i,data2⟩ e ih
 replace e:=(A8.eq_2 ..).symm.trans e
 refine cD 1 [] e (fun hc2 e=>?_) fun hc2 e=>?_
 refine mE 2 [] e (fun data3=>⟨[(0,.asl 0 0 n_ cap_),(1,iP a_),(2,iP b),(3,.fno true 49 [.vptr [hC cv1] 0]),(8,iP i)],[DI (data3.map Ai.vals) m_]⟩) ?_ fun y1 e1 hJ1=>?_
 rintro data3 e
 exact mJ 1 [] (ih (_,_) e)
 refine lF 1 [] (A:=(Int×(List Ac))) (fun n (j,data4)=>Av n a_ n_ cv1 j data4) (fun (j,data4)=>⟨[(0,.asl 0 0 n_ cap_),(1,iP a_),(2,iP b),(3,.fno true 49 [.vptr [hC cv1] 0]),(8,iP i),(9,iP j)],[DI (data4.map Ai.vals) m_]⟩) (i,data2) e1 (fun _=>rfl) ?_
 rintro n ⟨j,data4⟩ e1 ih1
 replace e1:=(Av.eq_2 ..).symm.trans e1
 refine mE 0 [] e1 (fun v34=>⟨[(0,.asl 0 0 n_ cap_),(1,iP a_),(2,iP b),(3,.fno true 49 [.vptr [hC cv1] 0]),(8,iP i),(9,iP j),(34,bP v34)],[DI (data4.map Ai.vals) m_]⟩) ?_ fun y2 e2 hJ2=>?_
 rintro v34 e1
 refine cD 0 [] e1 (fun hc e1=>?_) fun hc e1=>?_
 obtain⟨_,hu,e1⟩:=Ae e1
 obtain⟨x,hx,e1⟩:=Ae e1
 obtain⟨_,hu1,e1⟩:=Ae e1
 obtain⟨x1,hx1,e1⟩:=Ae e1
 obtain⟨data5,hdata5,e1⟩:=Ae e1
 obtain⟨data6,hdata6,e1⟩:=Ae e1
 exact mJ 3 [(8,NV 0 3 n_ (Eu hu)),(0,VM Ai m_ hx),(2,NV 0 3 n_ (Eu hu1)),(0,VM Ai m_ hx1),(0,NV 0 3 n_ (Eu hu1)),(0,fsE Ai m_ hdata5),(0,NV 0 3 n_ (Eu hu)),(0,fsE Ai m_ hdata6)] (ih1 (_,_) e1)
 exact mJ 1 [] (hJ1 _ (oj e1))
 rcases Am e2 with⟨hc1,e2⟩|⟨hc1,e2⟩
 obtain⟨_,hu2,e2⟩:=Ae e2
 obtain⟨x2,hx2,e2⟩:=Ae e2
 obtain⟨_,hu3,e2⟩:=Ae e2
 obtain⟨x3,hx3,e2⟩:=Ae e2
 obtain⟨s,hs,e2⟩:=Ae e2
 exact mJ 1 [(3,fo hc1),(3,NV 0 3 n_ (Eu hu2)),(0,VM Ai m_ hx2),(3,NV 0 3 n_ (Eu hu3)),(0,VM Ai m_ hx3),(0,fk (Hx _ _ _ _ hs))] (hJ2 _ (oj e2))
 exact mJ 1 [(3,fo hc1)] (hJ2 _ (oj e2))
 exact mJ 1 [] (hJ _ (oj e))
theorem CB (n:Nat)(cv1:(List Aa))(n_:Nat)(data:(List Ac))(a_:Int)(b:Int)(n_1:Int)(cap_ m_:Nat)(r:(List Ac))(h:AR n cv1 n_ data a_ b n_1=some r):J1 Tryz.prog 164 [.asl 0 0 n_ cap_,iP a_,iP b,iP n_1,.fno true 49 [.vptr [hC cv1] 0]] [DI (data.map Ai.vals) m_] (.ret (.tup [])) [DI (r.map Ai.vals) m_]:=by
 unfold AR at h
 refine vS ⟨[0,1,2,3,4,10,13],[(3,[9999,0,0,1,2,3,4,5,6,7,8,9,10,11,12,13,14,15,16,17,18,19,20,21,22,23])]⟩ Tryz.func164 follows fun Q hQ=>?_
 refine mE 1 [] h (fun data1=>⟨[],[DI (data1.map Ai.vals) m_]⟩) ?_ fun y e hJ=>?_
 rintro data1 h
 cases h
 exact rt 0 [] hQ
 refine lF 1 [] (A:=(Int×(List Ac))) (fun n (i,data2)=>AG n n_1 n_ b a_ i data2) (fun (i,data2)=>⟨[(0,.asl 0 0 n_ cap_),(1,iP a_),(2,iP b),(3,iP n_1),(10,iP i)],[DI (data2.map Ai.vals) m_]⟩) (0,data) e (fun _=>rfl) ?_
 rintro n ⟨i,data2⟩ e ih
 replace e:=(AG.eq_2 ..).symm.trans e
 refine cD 1 [] e (fun hc e=>?_) fun hc e=>?_
 obtain⟨_,hu,e⟩:=Ae e
 obtain⟨x,hx,e⟩:=Ae e
 obtain⟨_,hu1,e⟩:=Ae e
 obtain⟨x1,hx1,e⟩:=Ae e
 obtain⟨data3,hdata3,e⟩:=Ae e
 obtain⟨data4,hdata4,e⟩:=Ae e
 exact mJ 3 [(12,NV 0 3 n_ (Eu hu)),(0,VM Ai m_ hx),(4,NV 0 3 n_ (Eu hu1)),(0,VM Ai m_ hx1),(0,NV 0 3 n_ (Eu hu1)),(0,fsE Ai m_ hdata3),(0,NV 0 3 n_ (Eu hu)),(0,fsE Ai m_ hdata4)] (ih (_,_) e)
 exact mJ 1 [] (hJ _ (oj e))
theorem HN (n:Nat)(cv1:(List Aa))(n_:Nat)(data:(List Ac))(a_:Int)(m_1:Int)(b:Int)(cap_ m_:Nat)(r:(List Ac))(h:Bn n cv1 n_ data a_ m_1 b=some r):J1 Tryz.prog 148 [.asl 0 0 n_ cap_,iP a_,iP m_1,iP b,.fno true 49 [.vptr [hC cv1] 0]] [DI (data.map Ai.vals) m_] (.ret (.tup [])) [DI (r.map Ai.vals) m_]:=by
 unfold Bn at h
 refine vS ⟨[0,1,2,3,4,10,11,20,23],[]⟩ Tryz.func148 follows fun Q hQ=>?_
 refine mE 2 [] h (fun (i,data1)=>⟨[(0,.asl 0 0 n_ cap_),(2,iP m_1),(4,.fno true 49 [.vptr [hC cv1] 0]),(10,iP i)],[DI (data1.map Ai.vals) m_]⟩) ?_ fun y e hJ=>?_
 rintro⟨i,data1⟩ h
 obtain⟨data2,hdata2,h⟩:=Ae h
 cases h
 exact rt 1 [(7,fs (CB _ _ _ _ _ _ _ cap_ m_ _ hdata2))] hQ
 refine lF 1 [] (A:=(Int×Int×(List Ac))) (fun n (i1,j,data3)=>A1 n cv1 n_ m_1 i1 j data3) (fun (i1,j,data3)=>⟨[(0,.asl 0 0 n_ cap_),(2,iP m_1),(4,.fno true 49 [.vptr [hC cv1] 0]),(10,iP i1),(11,iP j)],[DI (data3.map Ai.vals) m_]⟩) ((À (m_1-a_)),(À (b-m_1)),data) e (fun _=>rfl) ?_
 rintro n ⟨i1,j,data3⟩ e ih
 replace e:=(A1.eq_2 ..).symm.trans e
 refine cD 1 [] e (fun hc1 e=>?_) fun hc1 e=>?_
 refine cD 2 [] e (fun hc e=>?_) fun hc e=>?_
 obtain⟨data4,hdata4,e⟩:=Ae e
 exact mJ 2 [(7,fs (CB _ _ _ _ _ _ _ cap_ m_ _ hdata4))] (ih (_,_,_) e)
 obtain⟨data5,hdata5,e⟩:=Ae e
 exact mJ 2 [(11,fs (CB _ _ _ _ _ _ _ cap_ m_ _ hdata5))] (ih (_,_,_) e)
 exact mJ 1 [] (hJ _ (oj e))
theorem GN (n0:Nat)
 (ih_slices_symMergeCmpFunc_120_49:∀ m,m<=n0->∀ (cv1:(List Aa)) (n_:Nat) (data:(List Ac)) (a_:Int) (m_1:Int) (b:Int) (cap_ m_:Nat) (r:(List Ac)),Al m cv1 n_ data a_ m_1 b=some r->J1 Tryz.prog 120 [.asl 0 0 n_ cap_,iP a_,iP m_1,iP b,.fno true 49 [.vptr [hC cv1] 0]] [DI (data.map Ai.vals) m_] (.ret (.tup [])) [DI (r.map Ai.vals) m_])
 (n:Nat) (hn:n<=n0) (cv1:(List Aa)) (n_:Nat) (data:(List Ac)) (a_:Int) (m_1:Int) (b:Int) (cap_ m_:Nat) (r:(List Ac)) (h:Al (n+1) cv1 n_ data a_ m_1 b=some r):J1 Tryz.prog 120 [.asl 0 0 n_ cap_,iP a_,iP m_1,iP b,.fno true 49 [.vptr [hC cv1] 0]] [DI (data.map Ai.vals) m_] (.ret (.tup [])) [DI (r.map Ai.vals) m_]:=by
 replace h:=(Al.eq_2 ..).symm.trans h
 refine vS ⟨[0,1,2,3,4,10,11,12,13,14,15,16,17,18,19,20,21,22,23,24,28,33,50,58,80,85,103,110,140,151,171,185,199,213],[(5,[9999,0,0,1,2,3,4,5,6,7,8,9,10]),(11,[9999,0,0,1,2,3,4,5,6,7,8,9,10,11,12,13,14,15,16,17]),(17,[9999,0,0,1,2,3,4,5,6,7,8,9,10,11]),(23,[9999,0,0,1,2,3,4,5,6,7,8,9,10,11,12,13,14,15,16,17]),(35,[9999,0,0,1,2,3,4,5,6,7,8,9,10,11,12,13])]⟩ Tryz.func120 follows fun Q hQ=>?_
 refine cD 1 [] h (fun hc16 h=>?_) fun hc16 h=>?_
 refine mE 2 [] h (fun i=>⟨[(0,.asl 0 0 n_ cap_),(1,iP a_),(2,iP m_1),(3,iP b),(4,.fno true 49 [.vptr [hC cv1] 0]),(10,iP i)],[DI (data.map Ai.vals) m_]⟩) ?_ fun y e hJ=>?_
 rintro i h
 refine mE 1 [] h (fun data1=>⟨[(0,.asl 0 0 n_ cap_),(1,iP a_),(2,iP m_1),(3,iP b),(4,.fno true 49 [.vptr [hC cv1] 0])],[DI (data1.map Ai.vals) m_]⟩) ?_ fun y1 e1 hJ1=>?_
 rintro data1 h
 cases h
 exact rt 0 [] hQ
 refine lR 1 [] (A:=(Int×(List Ac))) (fun n (k,data2)=>AE n i n_ k data2) (fun (k,data2)=>⟨[(0,.asl 0 0 n_ cap_),(1,iP a_),(2,iP m_1),(3,iP b),(4,.fno true 49 [.vptr [hC cv1] 0]),(10,iP i),(13,iP k)],[DI (data2.map Ai.vals) m_]⟩) (a_,data) hn e1 (fun _=>rfl) ?_
 rintro n ⟨k,data2⟩ hn e1 ih
 replace e1:=(AE.eq_2 ..).symm.trans e1
 refine cD 1 [] e1 (fun hc e1=>?_) fun hc e1=>?_
 obtain⟨_,hu,e1⟩:=Ae e1
 obtain⟨x,hx,e1⟩:=Ae e1
 obtain⟨_,hu1,e1⟩:=Ae e1
 obtain⟨x1,hx1,e1⟩:=Ae e1
 obtain⟨data3,hdata3,e1⟩:=Ae e1
 obtain⟨data4,hdata4,e1⟩:=Ae e1
 exact mJ 3 [(8,NV 0 3 n_ (Eu hu)),(0,VM Ai m_ hx),(2,NV 0 3 n_ (Eu hu1)),(0,VM Ai m_ hx1),(0,NV 0 3 n_ (Eu hu1)),(0,fsE Ai m_ hdata3),(0,NV 0 3 n_ (Eu hu)),(0,fsE Ai m_ hdata4)] (ih (_,_) e1)
 exact mJ 1 [] (hJ1 _ (oj e1))
 refine lR 1 [] (A:=(Int×Int)) (fun n (i1,j)=>Au n n_ data a_ cv1 i1 j) (fun (i1,j)=>⟨[(0,.asl 0 0 n_ cap_),(1,iP a_),(2,iP m_1),(3,iP b),(4,.fno true 49 [.vptr [hC cv1] 0]),(10,iP i1),(11,iP j)],[DI (data.map Ai.vals) m_]⟩) (m_1,b) hn e (fun _=>rfl) ?_
 rintro n ⟨i1,j⟩ hn e ih1
 replace e:=(Au.eq_2 ..).symm.trans e
 refine cD 1 [] e (fun hc2 e=>?_) fun hc2 e=>?_
 obtain⟨_,hu2,e⟩:=Ae e
 obtain⟨x2,hx2,e⟩:=Ae e
 obtain⟨_,hu3,e⟩:=Ae e
 obtain⟨x3,hx3,e⟩:=Ae e
 obtain⟨s,hs,e⟩:=Ae e
 refine cD 3 [(10,NV 0 3 n_ (Eu hu2)),(0,VM Ai m_ hx2),(2,NV 0 3 n_ (Eu hu3)),(0,VM Ai m_ hx3),(0,fk (Hx _ _ _ _ hs))] e (fun hc1 e=>?_) fun hc1 e=>?_
 exact mJ 1 [] (ih1 (_,_) e)
 exact mJ 1 [] (ih1 (_,_) e)
 exact mJ 1 [] (hJ _ (oj e))
 refine cD 1 [] h (fun hc15 h=>?_) fun hc15 h=>?_
 refine mE 2 [] h (fun i2=>⟨[(0,.asl 0 0 n_ cap_),(1,iP a_),(2,iP m_1),(3,iP b),(4,.fno true 49 [.vptr [hC cv1] 0]),(14,iP i2)],[DI (data.map Ai.vals) m_]⟩) ?_ fun y2 e2 hJ2=>?_
 rintro i2 h
 refine mE 1 [] h (fun data5=>⟨[(0,.asl 0 0 n_ cap_),(1,iP a_),(2,iP m_1),(3,iP b),(4,.fno true 49 [.vptr [hC cv1] 0])],[DI (data5.map Ai.vals) m_]⟩) ?_ fun y3 e3 hJ3=>?_
 rintro data5 h
 cases h
 exact rt 0 [] hQ
 refine lR 1 [] (A:=(Int×(List Ac))) (fun n (k1,data6)=>AD n i2 n_ k1 data6) (fun (k1,data6)=>⟨[(0,.asl 0 0 n_ cap_),(1,iP a_),(2,iP m_1),(3,iP b),(4,.fno true 49 [.vptr [hC cv1] 0]),(14,iP i2),(17,iP k1)],[DI (data6.map Ai.vals) m_]⟩) (m_1,data) hn e3 (fun _=>rfl) ?_
 rintro n ⟨k1,data6⟩ hn e3 ih2
 replace e3:=(AD.eq_2 ..).symm.trans e3
 refine cD 1 [] e3 (fun hc3 e3=>?_) fun hc3 e3=>?_
 obtain⟨_,hu4,e3⟩:=Ae e3
 obtain⟨x4,hx4,e3⟩:=Ae e3
 obtain⟨_,hu5,e3⟩:=Ae e3
 obtain⟨x5,hx5,e3⟩:=Ae e3
 obtain⟨data7,hdata7,e3⟩:=Ae e3
 obtain⟨data8,hdata8,e3⟩:=Ae e3
 exact mJ 3 [(8,NV 0 3 n_ (Eu hu4)),(0,VM Ai m_ hx4),(2,NV 0 3 n_ (Eu hu5)),(0,VM Ai m_ hx5),(0,NV 0 3 n_ (Eu hu5)),(0,fsE Ai m_ hdata7),(0,NV 0 3 n_ (Eu hu4)),(0,fsE Ai m_ hdata8)] (ih2 (_,_) e3)
 exact mJ 1 [] (hJ3 _ (oj e3))
 refine lR 1 [] (A:=(Int×Int)) (fun n (i3,j1)=>As n n_ m_1 data cv1 i3 j1) (fun (i3,j1)=>⟨[(0,.asl 0 0 n_ cap_),(1,iP a_),(2,iP m_1),(3,iP b),(4,.fno true 49 [.vptr [hC cv1] 0]),(14,iP i3),(15,iP j1)],[DI (data.map Ai.vals) m_]⟩) (a_,m_1) hn e2 (fun _=>rfl) ?_
 rintro n ⟨i3,j1⟩ hn e2 ih3
 replace e2:=(As.eq_2 ..).symm.trans e2
 refine cD 1 [] e2 (fun hc5 e2=>?_) fun hc5 e2=>?_
 obtain⟨_,hu6,e2⟩:=Ae e2
 obtain⟨x6,hx6,e2⟩:=Ae e2
 obtain⟨_,hu7,e2⟩:=Ae e2
 obtain⟨x7,hx7,e2⟩:=Ae e2
 obtain⟨s1,hs1,e2⟩:=Ae e2
 refine cD 3 [(10,NV 0 3 n_ (Eu hu6)),(0,VM Ai m_ hx6),(2,NV 0 3 n_ (Eu hu7)),(0,VM Ai m_ hx7),(0,fk (Hx _ _ _ _ hs1))] e2 (fun hc4 e2=>?_) fun hc4 e2=>?_
 exact mJ 1 [] (ih3 (_,_) e2)
 exact mJ 1 [] (ih3 (_,_) e2)
 exact mJ 1 [] (hJ2 _ (oj e2))
 refine mE 4 [] h (fun (start,r_)=>⟨[(0,.asl 0 0 n_ cap_),(1,iP a_),(2,iP m_1),(3,iP b),(4,.fno true 49 [.vptr [hC cv1] 0]),(18,iP (À ((IntKind.u64.wrap (À (a_+b))).fdiv (2 ^ min (1:Int).toNat IntKind.u64.bits)))),(19,iP (À ((À ((IntKind.u64.wrap (À (a_+b))).fdiv (2 ^ min (1:Int).toNat IntKind.u64.bits)))+m_1))),(20,iP start),(21,iP r_)],[DI (data.map Ai.vals) m_]⟩) ?_ fun y4 e4 hJ4=>?_
 rintro⟨start,r_⟩ h
 refine mE 1 [] h (fun start1=>⟨[(0,.asl 0 0 n_ cap_),(1,iP a_),(2,iP m_1),(3,iP b),(4,.fno true 49 [.vptr [hC cv1] 0]),(18,iP (À ((IntKind.u64.wrap (À (a_+b))).fdiv (2 ^ min (1:Int).toNat IntKind.u64.bits)))),(19,iP (À ((À ((IntKind.u64.wrap (À (a_+b))).fdiv (2 ^ min (1:Int).toNat IntKind.u64.bits)))+m_1))),(20,iP start1)],[DI (data.map Ai.vals) m_]⟩) ?_ fun y5 e5 hJ5=>?_
 rintro start1 h
 refine mE 1 [] h (fun v185=>⟨[(0,.asl 0 0 n_ cap_),(1,iP a_),(2,iP m_1),(3,iP b),(4,.fno true 49 [.vptr [hC cv1] 0]),(18,iP (À ((IntKind.u64.wrap (À (a_+b))).fdiv (2 ^ min (1:Int).toNat IntKind.u64.bits)))),(20,iP start1),(24,iP (À ((À ((À ((IntKind.u64.wrap (À (a_+b))).fdiv (2 ^ min (1:Int).toNat IntKind.u64.bits)))+m_1))-start1))),(185,bP v185)],[DI (data.map Ai.vals) m_]⟩) ?_ fun y6 e6 hJ6=>?_
 rintro v185 h
 refine mE 0 [] h (fun data9=>⟨[(0,.asl 0 0 n_ cap_),(1,iP a_),(3,iP b),(4,.fno true 49 [.vptr [hC cv1] 0]),(18,iP (À ((IntKind.u64.wrap (À (a_+b))).fdiv (2 ^ min (1:Int).toNat IntKind.u64.bits)))),(20,iP start1),(24,iP (À ((À ((À ((IntKind.u64.wrap (À (a_+b))).fdiv (2 ^ min (1:Int).toNat IntKind.u64.bits)))+m_1))-start1)))],[DI (data9.map Ai.vals) m_]⟩) ?_ fun y7 e7 hJ7=>?_
 rintro data9 h
 refine mE 0 [] h (fun v199=>⟨[(0,.asl 0 0 n_ cap_),(1,iP a_),(3,iP b),(4,.fno true 49 [.vptr [hC cv1] 0]),(18,iP (À ((IntKind.u64.wrap (À (a_+b))).fdiv (2 ^ min (1:Int).toNat IntKind.u64.bits)))),(20,iP start1),(24,iP (À ((À ((À ((IntKind.u64.wrap (À (a_+b))).fdiv (2 ^ min (1:Int).toNat IntKind.u64.bits)))+m_1))-start1))),(199,bP v199)],[DI (data9.map Ai.vals) m_]⟩) ?_ fun y8 e8 hJ8=>?_
 rintro v199 h
 refine mE 0 [] h (fun data10=>⟨[(0,.asl 0 0 n_ cap_),(3,iP b),(4,.fno true 49 [.vptr [hC cv1] 0]),(18,iP (À ((IntKind.u64.wrap (À (a_+b))).fdiv (2 ^ min (1:Int).toNat IntKind.u64.bits)))),(24,iP (À ((À ((À ((IntKind.u64.wrap (À (a_+b))).fdiv (2 ^ min (1:Int).toNat IntKind.u64.bits)))+m_1))-start1)))],[DI (data10.map Ai.vals) m_]⟩) ?_ fun y9 e9 hJ9=>?_
 rintro data10 h
 refine mE 0 [] h (fun v213=>⟨[(0,.asl 0 0 n_ cap_),(3,iP b),(4,.fno true 49 [.vptr [hC cv1] 0]),(18,iP (À ((IntKind.u64.wrap (À (a_+b))).fdiv (2 ^ min (1:Int).toNat IntKind.u64.bits)))),(24,iP (À ((À ((À ((IntKind.u64.wrap (À (a_+b))).fdiv (2 ^ min (1:Int).toNat IntKind.u64.bits)))+m_1))-start1))),(213,bP v213)],[DI (data10.map Ai.vals) m_]⟩) ?_ fun y10 e10 hJ10=>?_
 rintro v213 h
 refine cD 0 [] h (fun hc6 h=>?_) fun hc6 h=>?_
 obtain⟨data11,hdata11,h⟩:=Ae h
 cases h
 exact rt 1 [(5,fs (ih_slices_symMergeCmpFunc_120_49 _ hn _ _ _ _ _ _ cap_ m_ _ hdata11))] hQ
 cases h
 exact rt 0 [] hQ
 rcases Am e10 with⟨hc7,e10⟩|⟨hc7,e10⟩
 exact mJ 1 [(3,fo hc7)] (hJ10 _ (oj e10))
 exact mJ 1 [(3,fo hc7)] (hJ10 _ (oj e10))
 refine cD 0 [] e9 (fun hc8 e9=>?_) fun hc8 e9=>?_
 obtain⟨data12,hdata12,e9⟩:=Ae e9
 exact mJ 1 [(5,fs (ih_slices_symMergeCmpFunc_120_49 _ hn _ _ _ _ _ _ cap_ m_ _ hdata12))] (hJ9 _ (oj e9))
 exact mJ 0 [] (hJ9 _ (oj e9))
 rcases Am e8 with⟨hc9,e8⟩|⟨hc9,e8⟩
 exact mJ 1 [(3,fo hc9)] (hJ8 _ (oj e8))
 exact mJ 1 [(3,fo hc9)] (hJ8 _ (oj e8))
 refine cD 0 [] e7 (fun hc10 e7=>?_) fun hc10 e7=>?_
 obtain⟨data13,hdata13,e7⟩:=Ae e7
 exact mJ 1 [(5,fs (HN _ _ _ _ _ _ _ cap_ m_ _ hdata13))] (hJ7 _ (oj e7))
 exact mJ 0 [] (hJ7 _ (oj e7))
 rcases Am e6 with⟨hc11,e6⟩|⟨hc11,e6⟩
 exact mJ 1 [(3,fo hc11)] (hJ6 _ (oj e6))
 exact mJ 1 [(3,fo hc11)] (hJ6 _ (oj e6))
 refine lR 1 [] (A:=(Int×Int)) (fun n (start2,r_1)=>Aq n n_ a_ b m_1 data cv1 start2 r_1) (fun (start2,r_1)=>⟨[(0,.asl 0 0 n_ cap_),(1,iP a_),(2,iP m_1),(3,iP b),(4,.fno true 49 [.vptr [hC cv1] 0]),(18,iP (À ((IntKind.u64.wrap (À (a_+b))).fdiv (2 ^ min (1:Int).toNat IntKind.u64.bits)))),(19,iP (À ((À ((IntKind.u64.wrap (À (a_+b))).fdiv (2 ^ min (1:Int).toNat IntKind.u64.bits)))+m_1))),(20,iP start2),(21,iP r_1),(22,iP (À ((À ((À ((IntKind.u64.wrap (À (a_+b))).fdiv (2 ^ min (1:Int).toNat IntKind.u64.bits)))+m_1))-1)))],[DI (data.map Ai.vals) m_]⟩) (start,r_) hn e5 (fun _=>rfl) ?_
 rintro n ⟨start2,r_1⟩ hn e5 ih4
 replace e5:=(Aq.eq_2 ..).symm.trans e5
 refine cD 1 [] e5 (fun hc13 e5=>?_) fun hc13 e5=>?_
 obtain⟨_,hu8,e5⟩:=Ae e5
 obtain⟨x8,hx8,e5⟩:=Ae e5
 obtain⟨_,hu9,e5⟩:=Ae e5
 obtain⟨x9,hx9,e5⟩:=Ae e5
 obtain⟨s2,hs2,e5⟩:=Ae e5
 refine cD 3 [(12,NV 0 3 n_ (Eu hu8)),(0,VM Ai m_ hx8),(2,NV 0 3 n_ (Eu hu9)),(0,VM Ai m_ hx9),(0,fk (Hx _ _ _ _ hs2))] e5 (fun hc12 e5=>?_) fun hc12 e5=>?_
 exact mJ 1 [] (ih4 (_,_) e5)
 exact mJ 1 [] (ih4 (_,_) e5)
 exact mJ 1 [] (hJ5 _ (oj e5))
 refine cD 0 [] e4 (fun hc14 e4=>?_) fun hc14 e4=>?_
 exact mJ 2 [] (hJ4 _ (oj e4))
 exact mJ 2 [] (hJ4 _ (oj e4))
theorem DM:∀ n:Nat,(∀ m,m<=n->∀ (cv1:(List Aa)) (n_:Nat) (data:(List Ac)) (a_:Int) (m_1:Int) (b:Int) (cap_ m_:Nat) (r:(List Ac)),Al m cv1 n_ data a_ m_1 b=some r->J1 Tryz.prog 120 [.asl 0 0 n_ cap_,iP a_,iP m_1,iP b,.fno true 49 [.vptr [hC cv1] 0]] [DI (data.map Ai.vals) m_] (.ret (.tup [])) [DI (r.map Ai.vals) m_])
 |0=>(fun m hm cv1 n_ data a_ m_1 b cap_ m_ r h=>by
  obtain rfl:m=0:=by omega
  exact absurd h (by simp [Al]))
 |n+1=>by
  have ih:=DM n
  exact fun m hm cv1 n_ data a_ m_1 b cap_ m_ r h=>by
   cases m with
   |zero=>exact absurd h (by simp [Al])
   |succ m=>exact GN n (ih) m (by omega) cv1 n_ data a_ m_1 b cap_ m_ _ h
theorem E1 (n:Nat)(cv1:(List Aa))(n_:Nat)(data:(List Ac))(a_:Int)(m_1:Int)(b:Int)(cap_ m_:Nat)(r:(List Ac))(h:Al n cv1 n_ data a_ m_1 b=some r):J1 Tryz.prog 120 [.asl 0 0 n_ cap_,iP a_,iP m_1,iP b,.fno true 49 [.vptr [hC cv1] 0]] [DI (data.map Ai.vals) m_] (.ret (.tup [])) [DI (r.map Ai.vals) m_] :=
 (DM n) n (à _) cv1 n_ data a_ m_1 b cap_ m_ r h
theorem Ic (n:Nat)(cv1:(List Aa))(n_:Nat)(data:(List Ac))(n_1:Int)(cap_ m_:Nat)(r:(List Ac))(h:B6 n cv1 n_ data n_1=some r):J1 Tryz.prog 73 [.asl 0 0 n_ cap_,iP n_1,.fno true 49 [.vptr [hC cv1] 0]] [DI (data.map Ai.vals) m_] (.ret (.tup [])) [DI (r.map Ai.vals) m_]:=by
 unfold B6 at h
 refine vS ⟨[0,1,2,6,7,8,9,13,30,35,54],[]⟩ Tryz.func73 follows fun Q hQ=>?_
 refine mE 2 [] h (fun (a_,b,data1)=>⟨[(0,.asl 0 0 n_ cap_),(1,iP n_1),(2,.fno true 49 [.vptr [hC cv1] 0]),(6,iP 20),(7,iP a_),(8,iP b)],[DI (data1.map Ai.vals) m_]⟩) ?_ fun y e hJ=>?_
 rintro⟨a_,b,data1⟩ h
 obtain⟨data2,hdata2,h⟩:=Ae h
 refine mE 1 [(4,fs (D3 _ _ _ _ _ _ cap_ m_ _ hdata2))] h (fun data3=>⟨[],[DI (data3.map Ai.vals) m_]⟩) ?_ fun y1 e1 hJ1=>?_
 rintro data3 h
 cases h
 exact rt 0 [] hQ
 refine lF 1 [] (A:=(Int×Int×Int×(List Ac))) (fun n (blockSize,a_1,b1,data4)=>Aw n n_1 cv1 n_ blockSize a_1 b1 data4) (fun (blockSize,a_1,b1,data4)=>⟨[(0,.asl 0 0 n_ cap_),(1,iP n_1),(2,.fno true 49 [.vptr [hC cv1] 0]),(6,iP blockSize),(7,iP a_1),(8,iP b1)],[DI (data4.map Ai.vals) m_]⟩) (20,a_,b,data2) e1 (fun _=>rfl) ?_
 rintro n ⟨blockSize,a_1,b1,data4⟩ e1 ih
 replace e1:=(Aw.eq_2 ..).symm.trans e1
 refine cD 1 [] e1 (fun hc2 e1=>?_) fun hc2 e1=>?_
 refine mE 2 [] e1 (fun (a_2,b2,data5)=>⟨[(0,.asl 0 0 n_ cap_),(1,iP n_1),(2,.fno true 49 [.vptr [hC cv1] 0]),(6,iP blockSize),(7,iP a_2),(8,iP b2)],[DI (data5.map Ai.vals) m_]⟩) ?_ fun y2 e2 hJ2=>?_
 rintro⟨a_2,b2,data5⟩ e1
 refine cD 2 [] e1 (fun hc e1=>?_) fun hc e1=>?_
 obtain⟨data6,hdata6,e1⟩:=Ae e1
 exact mJ 2 [(5,fs (E1 _ _ _ _ _ _ _ cap_ m_ _ hdata6))] (ih (_,_,_,_) e1)
 exact mJ 1 [] (ih (_,_,_,_) e1)
 refine lF 1 [] (A:=(Int×Int×(List Ac))) (fun n (a_3,b3,data7)=>A3 n n_1 cv1 n_ blockSize a_3 b3 data7) (fun (a_3,b3,data7)=>⟨[(0,.asl 0 0 n_ cap_),(1,iP n_1),(2,.fno true 49 [.vptr [hC cv1] 0]),(6,iP blockSize),(7,iP a_3),(8,iP b3)],[DI (data7.map Ai.vals) m_]⟩) (0,(À (2*blockSize)),data4) e2 (fun _=>rfl) ?_
 rintro n ⟨a_3,b3,data7⟩ e2 ih1
 replace e2:=(A3.eq_2 ..).symm.trans e2
 refine cD 1 [] e2 (fun hc1 e2=>?_) fun hc1 e2=>?_
 obtain⟨data8,hdata8,e2⟩:=Ae e2
 exact mJ 4 [(7,fs (E1 _ _ _ _ _ _ _ cap_ m_ _ hdata8))] (ih1 (_,_,_) e2)
 exact mJ 1 [] (hJ2 _ (oj e2))
 exact mJ 1 [] (hJ1 _ (oj e1))
 refine lF 1 [] (A:=(Int×Int×(List Ac))) (fun n (a_4,b4,data9)=>A5 n n_1 cv1 n_ a_4 b4 data9) (fun (a_4,b4,data9)=>⟨[(0,.asl 0 0 n_ cap_),(1,iP n_1),(2,.fno true 49 [.vptr [hC cv1] 0]),(6,iP 20),(7,iP a_4),(8,iP b4)],[DI (data9.map Ai.vals) m_]⟩) (0,20,data) e (fun _=>rfl) ?_
 rintro n ⟨a_4,b4,data9⟩ e ih2
 replace e:=(A5.eq_2 ..).symm.trans e
 refine cD 1 [] e (fun hc3 e=>?_) fun hc3 e=>?_
 obtain⟨data10,hdata10,e⟩:=Ae e
 exact mJ 4 [(4,fs (D3 _ _ _ _ _ _ cap_ m_ _ hdata10))] (ih2 (_,_,_) e)
 exact mJ 1 [] (hJ _ (oj e))
theorem HO (n:Nat)(cv1:(List Aa))(n_:Nat)(x:(List Ac))(cap_ m_:Nat)(r:(List Ac))(h:BR n cv1 n_ x=some r):J1 Tryz.prog 48 [.asl 0 0 n_ cap_,.fno true 49 [.vptr [hC cv1] 0]] [DI (x.map Ai.vals) m_] (.ret (.tup [])) [DI (r.map Ai.vals) m_]:=by
 unfold BR at h
 refine vS ⟨[0,1],[]⟩ Tryz.func48 follows fun Q hQ=>?_
 obtain⟨x1,hx1,h⟩:=Ae h
 cases h
 exact rt 1 [(4,fs (Ic _ _ _ _ _ cap_ m_ _ hx1))] hQ
end Go.Proofs.YtehfpameijkafaaGreatDoor
namespace Go.Proofs.YtehfpameijkafaaGreatDoor
open Go Go.RowKit Go.Proofs Go.Vl Go.Sp
def WB:Nat->Int->Option Unit
 |0,_=>none
 |n+1,i=>bif decide (i<0) then WB n i else some ()
theorem Afn (cl:(List Aa)):CA Tryz.prog 119 [.sl [] .shared,iP 0,iP 0,.fno true 49 [.vptr [hP cl Bv] 0]] (.tup []):=by
 refine vP ⟨[0,1,2,3,8,9,14,34],[(4,[9999,0,0,1,2,3,4,5,6,7,8,9,10,11,12,13,14,15,16]),(6,[9999,0,0,1,2,3,4,5,6,7,8,9,10,11,12,13,14,15,16,17])]⟩ Tryz.func119 follows fun Q hQ=>?_
 have h:(WB 1 1).bind (fun _:Unit=>some ())=some ():=rfl
 refine mE 1 [] h (fun _=>⟨[],[]⟩) ?_ fun y e hJ=>?_
 rintro⟨⟩ _
 exact rt 0 [] hQ
 refine lF 1 [] (A:=Int) (fun n i=>bif decide (i=1) then WB n i else none) (fun i=>⟨[(0,.sl [] .shared),(1,iP 0),(2,iP 0),(3,.fno true 49 [.vptr [hP cl Bv] 0]),(8,iP i)],[]⟩) 1 (m:=1) e (fun _=>by simp [WB]) ?_
 rintro n i e ih
 rcases Am e with⟨hc,e⟩|⟨hc,e⟩
 have hi:i=1:=by simpa using hc
 refine cD 1 [] e (fun hc2 e=>?_) fun hc2 e=>?_
 exact absurd (ć hc2) (by omega)
 exact mJ 1 [] (hJ _ (oj e))
 cases e
def Aby:Nat->Int->Option Unit
 |0,_=>none
 |n+1,i=>bif decide (i<=0) then Aby n i else some ()
theorem Agu (cl:(List Aa)):CA Tryz.prog 73 [.sl [] .shared,iP 0,.fno true 49 [.vptr [hP cl Bv] 0]] (.tup []):=by
 refine vP ⟨[0,1,2,6,7,8,9,13,30,35,54],[]⟩ Tryz.func73 follows fun Q hQ=>?_
 have h:(Aby 1 20).bind (fun _:Unit=>(WB 1 20).bind (fun _:Unit=>some ()))=some ():=rfl
 refine mE 2 [] h (fun _=>⟨[(0,.sl [] .shared),(1,iP 0),(2,.fno true 49 [.vptr [hP cl Bv] 0]),(6,iP 20),(7,iP 0),(8,iP 20)],[]⟩) ?_ fun y e hJ=>?_
 rintro⟨⟩ h
 refine mE 1 [(4,fk (Afn cl))] h (fun _=>⟨[],[]⟩) ?_ fun y e hJ=>?_
 rintro⟨⟩ _
 exact rt 0 [] hQ
 refine lF 1 [] (A:=Int) (fun n i=>bif decide (i=20) then WB n i else none) (fun i=>⟨[(0,.sl [] .shared),(1,iP 0),(2,.fno true 49 [.vptr [hP cl Bv] 0]),(6,iP i),(7,iP 0),(8,iP 20)],[]⟩) 20 (m:=1) e (fun _=>by simp [WB]) ?_
 rintro n i e ih
 rcases Am e with⟨hc,e⟩|⟨hc,e⟩
 have hi:i=20:=by simpa using hc
 refine cD 1 [] e (fun hc2 e=>?_) fun hc2 e=>?_
 exact absurd (ć hc2) (by omega)
 exact mJ 1 [] (hJ _ (oj e))
 cases e
 refine lF 1 [] (A:=Int) (fun n i=>bif decide (i=20) then Aby n i else none) (fun i=>⟨[(0,.sl [] .shared),(1,iP 0),(2,.fno true 49 [.vptr [hP cl Bv] 0]),(6,iP 20),(7,iP 0),(8,iP i)],[]⟩) 20 (m:=1) e (fun _=>by simp [Aby]) ?_
 rintro n i e ih
 rcases Am e with⟨hc,e⟩|⟨hc,e⟩
 obtain rfl:i=20:=by simpa using hc
 refine cD 1 [] e (fun hc2 e=>?_) fun hc2 e=>?_
 exact absurd (ć hc2) (by omega)
 exact mJ 1 [] (hJ _ (oj e))
 cases e
theorem Ad0 (cl:(List Aa)):CA Tryz.prog 48 [.sl [] .shared,.fno true 49 [.vptr [hP cl Bv] 0]] (.tup []):=by
 refine vP ⟨[0,1],[]⟩ Tryz.func48 follows fun Q hQ=>?_
 exact rt 1 [(4,fk (Agu cl))] hQ
theorem Abo:CA Tryz.prog 52 [.sl [] .shared] (.tup []):=by
 intro σ w G vs hs hvs hv hΩ hgl
 have hvs1:vs.size=1:=hvs
 have e1:vs = #[vs.getD 0 Go.undef]:=by
  apply Array.ext
  . simpa using hvs1
  . intro i h1 h2
    have:i=0:=by simp at h2;exact h2
    subst this
    simp [Array.getD,h1]
 have h0:V w G.U G.φ (.sl [] .shared) (vs.getD 0 Go.undef):=hv 0 (by simp)
 have hx:∃ p cap,vs.getD 0 Go.undef=.slice p 0 cap:=by
  revert h0
  generalize vs.getD 0 Go.undef=z
  intro h0
  cases h0<;>exact⟨_,_,rfl⟩
 obtain⟨p,cap,hx⟩:=hx
 rw [e1,hx]
 refine (Tryz.slices_Sort_int_none p cap w).mono ?_
 rintro e w' ⟨rfl,rfl⟩
 exact⟨_,_,G,⟨rfl,rfl⟩,⟨_,rfl,.tup _ _ _ rfl (fun i hi=>by simp at hi),fun i xs hi=>by simp at hi⟩,hs,Ext.refl _ _⟩
end Go.Proofs.YtehfpameijkafaaGreatDoor
namespace Go.Proofs.YtehfpameijkafaaGreatDoor
open Go.RowKit Go.Q Go.Vl Go.Sp
set_option maxRecDepth 100000
set_option linter.unusedSimpArgs false
set_option maxHeartbeats 4000000
set_option linter.unusedVariables false
theorem Ace:Cn [(7,[9996,8])] Tryz.f60.ntmps (Tryz.f60.body.getD .skip)=true:=by kernel_rfl
theorem Afm (Q:Cl->List (List PV)->Prop)(hQ:∀ os:List Nat,Ord os->∀ l,l=FT++os.flatMap Ho->∀ r,Z6 20 l=some r->∀ y,shareP y=hO r->Q (.ret y) []):VC Tryz.prog 60 [] [] Q:=by
 obtain⟨n,hn20⟩:∃ n,n=20:=⟨20,rfl⟩
 have h:Ad9 n=some FT:=by rw [hn20];exact Acd
 unfold Ad9 at h
 refine VC.intro ⟨[0,1,2,3,4,5,7,9,35,36,37,38,52,54,58,59,60,61,73,84,85,86,87,103],[(7,[9996,8])]⟩ Tryz.func60 rfl follows Ace (by rw [Tryz.ntmps60];exact Ø rfl) ?_
 refine Rz ?_
 repeat first|apply z1|apply z2|apply z3|apply z4
 refine wr [0] 0 (Ez 1 []) ⟨[(0,.sl [] .own)],[]⟩ True.intro (by kernel_rfl) ?_
 repeat first|apply z1|apply z2|apply z3|apply z4
 obtain⟨l,hl,h⟩:=Ae h
 have fb:([[iP 1]]:List (List PV))=l.map BJ:=by rw [<- Af hl];simp only [Þ,ï,Bt]<;>rfl
 obtain⟨l1,hl1,h⟩:=Ae h
 have fb1:([[iP 1],[iP 1]]:List (List PV))=l1.map BJ:=by rw [<- Af hl1];simp only [Þ,ï,Bt]<;>rfl
 obtain⟨l2,hl2,h⟩:=Ae h
 have fb2:([[iP 1],[iP 1]]:List (List PV))=l2.map BJ:=by rw [<- Af hl2];simp only [Þ,ï,Bt]<;>rfl
 obtain⟨l3,hl3,h⟩:=Ae h
 have fb3:([[iP 2],[iP 1]]:List (List PV))=l3.map BJ:=by rw [<- Af hl3];simp only [Þ,ï,Bt]<;>rfl
 obtain⟨l4,hl4,h⟩:=Ae h
 have fb4:([[iP 1],[iP 1]]:List (List PV))=l4.map BJ:=by rw [<- Af hl4];simp only [Þ,ï,Bt]<;>rfl
 obtain⟨l5,hl5,h⟩:=Ae h
 have fb5:([[iP 2],[iP 1]]:List (List PV))=l5.map BJ:=by rw [<- Af hl5];simp only [Þ,ï,Bt]<;>rfl
 obtain⟨l6,hl6,h⟩:=Ae h
 have fb6:([[iP 2],[iP 2]]:List (List PV))=l6.map BJ:=by rw [<- Af hl6];simp only [Þ,ï,Bt]<;>rfl
 obtain⟨l7,hl7,h⟩:=Ae h
 have fb7:([[iP 3]]:List (List PV))=l7.map BJ:=by rw [<- Af hl7];simp only [Þ,ï,Bt]<;>rfl
 obtain⟨l8,hl8,h⟩:=Ae h
 have fb8:([[iP 3],[iP 3]]:List (List PV))=l8.map BJ:=by rw [<- Af hl8];simp only [Þ,ï,Bt]<;>rfl
 obtain⟨l9,hl9,h⟩:=Ae h
 have fb9:([[iP 3],[iP 3]]:List (List PV))=l9.map BJ:=by rw [<- Af hl9];simp only [Þ,ï,Bt]<;>rfl
 obtain⟨l10,hl10,h⟩:=Ae h
 have fb10:([[iP 1]]:List (List PV))=l10.map BJ:=by rw [<- Af hl10];simp only [Þ,ï,Bt]<;>rfl
 obtain⟨l11,hl11,h⟩:=Ae h
 have fb11:([[iP 1]]:List (List PV))=l11.map BJ:=by rw [<- Af hl11];simp only [Þ,ï,Bt]<;>rfl
 obtain⟨l12,hl12,h⟩:=Ae h
 have fb12:([[iP 6,tP ⟨#[]⟩,hI l,iP 1,.fno true 82 []],[iP 7,tP ⟨#[]⟩,hI l1,iP 1,.fno true 83 []],[iP 10,tP ⟨#[]⟩,hI l2,iP 1,.fno true 85 []],[iP 10,tP ⟨#[]⟩,hI l3,iP 2,.fno true 87 []],[iP 11,tP ⟨#[]⟩,hI l4,iP 1,.fno true 89 []],[iP 11,tP ⟨#[]⟩,hI l5,iP 2,.fno true 90 []],[iP 11,tP ⟨#[]⟩,hI l6,iP 1,.fno true 91 []],[iP 5,tP ⟨#[]⟩,hI l7,iP 3,.fno true 92 []],[iP 18,tP ⟨#[]⟩,hI l8,iP 3,.fno true 93 []],[iP 19,tP ⟨#[]⟩,hI l9,iP 3,.fno true 94 []],[iP 4,tP ⟨#[100,97,121]⟩,hI l10,iP 2,.fno true 95 []],[iP 4,tP ⟨#[112,101,114,115,111,110]⟩,hI l11,iP 4,.fno true 97 []]]:List (List PV))=l12.map AT:=by rw [<- Af hl12];simp only [Þ,ï,BM]<;>rfl
 refine wr [0,1] 0 (.val (oI l)::(Ez 1 (.val (oI l1)::(Ez 1 (.val (oI l2)::(Ez 1 (.val (oI l3)::(Ez 1 (.val (oI l4)::(Ez 1 (.val (oI l5)::(Ez 1 (.val (oI l6)::(Ez 1 (.val (oI l7)::(Ez 1 (.val (oI l8)::(Ez 1 (.val (oI l9)::(Ez 1 (.val (oI l10)::(Ez 1 (.val (oI l11)::(Ez 1 (.val (oO l12)::(Ez 1 [])))))))))))))))))))))))))) ⟨[(0,.sl [] .own),(1,oO l12)],[]⟩ (And.intro (Dm rfl fb) (And.intro (Dm rfl fb1) (And.intro (Dm rfl fb2) (And.intro (Dm rfl fb3) (And.intro (Dm rfl fb4) (And.intro (Dm rfl fb5) (And.intro (Dm rfl fb6) (And.intro (Dm rfl fb7) (And.intro (Dm rfl fb8) (And.intro (Dm rfl fb9) (And.intro (Dm rfl fb10) (And.intro (Dm rfl fb11) (And.intro (Dm rfl fb12) True.intro))))))))))))) (by kernel_rfl) ?_
 repeat first|apply z1|apply z2|apply z3|apply z4
 obtain⟨l13,hl13,h⟩:=Ae h
 have fb13:([[tP ⟨#[98,111,114,110]⟩],[tP ⟨#[100,105,101,100]⟩],[tP ⟨#[97,115,107,101,100]⟩],[tP ⟨#[104,101,108,100]⟩],[tP ⟨#[108,105,102,116,101,100]⟩]]:List (List PV))=l13.map FL:=by rw [<- Af hl13];simp only [Þ,ï,Jv]<;>rfl
 refine wr [0,1,35,36,37] 0 (.val (oS l13)::(.val (iP (l13.length:Int))::(Ez 1 []))) ⟨[(0,.sl [] .own),(1,oO l12),(35,oS l13),(36,iP (l13.length:Int)),(37,iP 0)],[]⟩ (And.intro (Dm rfl fb13) (And.intro (Y1 l13 FL) True.intro)) (by kernel_rfl) ?_
 repeat first|apply z1|apply z2|apply z3|apply z4
 obtain⟨y,e,h⟩:=Ae h
 refine NS (A:=((List Ab)×Int×Bool)) (fun v=>v=y) (fun y=>match y with|(l14,v37,v38)=>⟨[(0,.sl [] .own),(1,oO l14),(35,oS l13),(36,iP (l13.length:Int)),(37,iP v37),(38,bP v38)],[]⟩) ?_ ?_
 . rintro⟨l14,v37,v38⟩ rfl
   show WS _ _ _ _ _ ⟨[(0,.sl [] .own),(1,oO l14),(35,oS l13),(36,iP (l13.length:Int)),(37,iP v37),(38,bP v38)],[]⟩
   repeat first|apply z1|apply z2|apply z3|apply z4
   have hr:=Af h
   subst hr
   refine Afj (N:=0) (m:=8) [1,51] 1 (Ez 8 []) ⟨[(1,oO FT),(51,.mref 0)],[[.mp CM]]⟩ ⟨[(1,oO FT),(51,.vmp CM)],[]⟩ True.intro (by kernel_rfl) (Wk.frz (σ0:=[]) (cs:=[.mp CM]) (fp:=fun _=>.undef) (fm:=.vmp CM) rfl (by exact Ø rfl) (.inr ⟨CM,rfl,rfl,rfl⟩) (by kernel_rfl) (by kernel_rfl)) (fun K' hK=>?_)
   refine wrT [1,52] 1 (Ez 1 []) ⟨[(1,oO FT),(52,.ptr 0 0)],[[.mit CM []]]⟩ True.intro (by kernel_rfl) ?_ hK
   clear hK K'
   repeat first|apply z1|apply z2|apply z3|apply z4
   refine Hf ?_
   refine TX [1,52] 1 (fun a:List Nat×(List Ab)=>a.1.Nodup/\(∀ i∈a.1,i<6)/\a.1.length<=6/\a.2=FT++a.1.flatMap Ho) (fun a=>6-a.1.length) (fun a=>⟨[(1,oO a.2),(52,.ptr 0 0)],[[.mit CM a.1]]⟩) ([],FT) (Ø rfl) rfl ⟨by simp,by simp,by simp,by simp⟩ ?_
   rintro⟨seen,l⟩ ⟨hnd,hlt,hlen,hl⟩
   show WS _ _ _ _ _ ⟨[(1,oO l),(52,.ptr 0 0)],[[.mit CM seen]]⟩
   repeat first|apply z1|apply z2|apply z3|apply z4
   refine Iq (by kernel_rfl) fun K' hK hP=>?_
   refine WL (x:=.tmp 52) (d:=53) (k:=0) (kvs:=CM) (seen:=seen) rfl rfl rfl rfl (fun hall=>?_) (fun i hi hn=>?_)
   . refine wrT [1,54] 1 (Ez 1 []) ⟨[(1,oO l),(54,bP false)],[[.mit CM seen]]⟩ True.intro (by kernel_rfl) ?_ hK
     clear hK hP K'
     repeat first|apply z1|apply z2|apply z3|apply z4
     refine Fb rfl ?_
     repeat first|apply z1|apply z2|apply z3|apply z4
     try refine z5 rfl ?_
     repeat first|apply z1|apply z2|apply z3|apply z4
     refine KG [1] 0 (by kernel_rfl) (Ø rfl) (st0:=⟨[(1,oO l)],[]⟩) (by kernel_rfl) ?_
     have hQ:=hQ seen (Ad7 hnd hlt hall) l hl
     obtain⟨r,h⟩:=Ab9 l (Wz hlen hl)
     have hQ:=hQ r h
     rw [<- hn20] at h
     unfold Z6 at h
     repeat first|apply z1|apply z2|apply z3|apply z4
     obtain⟨l1,hl1,h⟩:=Ae h
     have fb:([[iP 1],[iP 2],[iP 3],[iP 4]]:List (List PV))=l1.map BJ:=by rw [<- Af hl1];simp only [Þ,ï,Bt]<;>rfl
     refine wr [1,84,85,86] 0 (.val (oI l1)::(.val (iP (l1.length:Int))::(Ez 1 []))) ⟨[(1,oO l),(84,oI l1),(85,iP (l1.length:Int)),(86,iP 0)],[]⟩ (And.intro (Dm rfl fb) (And.intro (Y1 l1 BJ) True.intro)) (by kernel_rfl) ?_
     repeat first|apply z1|apply z2|apply z3|apply z4
     obtain⟨y,e,h⟩:=Ae h
     refine NS (A:=(List Ab)) (fun v=>v=y) (fun l2=>⟨[(1,oO l2)],[]⟩) ?_ ?_
     . rintro l2 rfl
       show WS _ _ _ _ _ ⟨[(1,oO l2)],[]⟩
       repeat first|apply z1|apply z2|apply z3|apply z4
       refine wr [0] 0 (Ez 2 []) ⟨[(0,hO l2)],[]⟩ True.intro (by kernel_rfl) ?_
       repeat first|apply z1|apply z2|apply z3|apply z4
       obtain rfl:=Af h
       exact IS (HH hQ (by kernel_rfl)).1
     . intro hJ
       repeat first|apply z1|apply z2|apply z3|apply z4
       refine Hf ?_
       repeat first|apply z1|apply z2|apply z3|apply z4
       refine TX [1,84,85,86] 0 (fun a:Nat×((List Ab)×Int)=>AY a.1 l1 a.2.1 a.2.2=some y) (fun a=>a.1) (fun a:Nat×((List Ab)×Int)=>match a with|(_,(l3,v86))=>⟨[(1,oO l3),(84,oI l1),(85,iP (l1.length:Int)),(86,iP v86)],[]⟩) (n,(l,0)) (Ø rfl) rfl e ?_
       clear e
       rintro⟨n,l3,v86⟩ e
       show WS _ _ _ _ _ ⟨[(1,oO l3),(84,oI l1),(85,iP (l1.length:Int)),(86,iP v86)],[]⟩
       cases n with
       |zero=>exact absurd e (by simp [AY])
       |succ n =>
        replace e:=(Ds n l1 l3 v86).symm.trans e
        repeat first|apply z1|apply z2|apply z3|apply z4
        refine wr [1,84,85,86,87] 0 (Ez 1 []) ⟨[(1,oO l3),(84,oI l1),(85,iP (l1.length:Int)),(86,iP v86),(87,bP (decide (v86<(l1.length:Int))))],[]⟩ True.intro (by kernel_rfl) ?_
        repeat first|apply z1|apply z2|apply z3|apply z4
        rcases Am e with⟨hc2,e⟩|⟨hc2,e⟩
        . refine Gr (test hc2) ?_
          repeat first|apply z1|apply z2|apply z3|apply z4
          refine Hf ?_
          repeat first|apply z1|apply z2|apply z3|apply z4
          obtain⟨x,hx,e⟩:=Ae e
          refine wr [1,9,84,85,86] 0 (.val (.vptr [iP x] 0)::(Ez 2 [])) ⟨[(1,oO l3),(9,iP x),(84,oI l1),(85,iP (l1.length:Int)),(86,iP v86)],[]⟩ (And.intro (oi hx Lu (Bt x)) True.intro) (by kernel_rfl) ?_
          repeat first|apply z1|apply z2|apply z3|apply z4
          obtain⟨l4,hl4,e⟩:=Ae e
          have fb1:([[iP 3],[iP x],[iP x]]:List (List PV))=l4.map BJ:=by rw [<- Af hl4];simp only [Þ,ï,Bt]<;>rfl
          obtain⟨l5,hl5,e⟩:=Ae e
          have fb2:([[iP 20,tP ⟨#[]⟩,hI l4,iP x,.fno true 108 []]]:List (List PV))=l5.map AT:=by rw [<- Af hl5];simp only [Þ,ï,BM]<;>rfl
          obtain⟨l6,hl6,e⟩:=Ae e
          refine wr [1,9,84,85,86] 0 (Ez 3 (.val (oI l4)::(Ez 2 (.val (oO l5)::(.val (oO l6)::(Ez 1 [])))))) ⟨[(1,oO l6),(9,iP x),(84,oI l1),(85,iP (l1.length:Int)),(86,iP v86)],[]⟩ (And.intro (Dm rfl fb1) (And.intro (Dm rfl fb2) (And.intro (ZF hl6 Cg) True.intro))) (by kernel_rfl) ?_
          repeat first|apply z1|apply z2|apply z3|apply z4
          obtain⟨y1,e1,e⟩:=Ae e
          refine NS (A:=Bool) (fun v=>v=y1) (fun v103=>⟨[(1,oO l6),(9,iP x),(84,oI l1),(85,iP (l1.length:Int)),(86,iP v86),(103,bP v103)],[]⟩) ?_ ?_
          . rintro v103 rfl
            show WS _ _ _ _ _ ⟨[(1,oO l6),(9,iP x),(84,oI l1),(85,iP (l1.length:Int)),(86,iP v86),(103,bP v103)],[]⟩
            repeat first|apply z1|apply z2|apply z3|apply z4
            rcases Am e with⟨hc,e⟩|⟨hc,e⟩
            . refine Gr (test hc) ?_
              repeat first|apply z1|apply z2|apply z3|apply z4
              obtain⟨l7,hl7,e⟩:=Ae e
              have fb3:([[iP x],[iP x]]:List (List PV))=l7.map BJ:=by rw [<- Af hl7];simp only [Þ,ï,Bt]<;>rfl
              obtain⟨l8,hl8,e⟩:=Ae e
              have fb4:([[iP x],[iP x]]:List (List PV))=l8.map BJ:=by rw [<- Af hl8];simp only [Þ,ï,Bt]<;>rfl
              obtain⟨l9,hl9,e⟩:=Ae e
              have fb5:([[iP 4,tP ⟨#[109,105,110]⟩,hI l7,iP x,.fno true 109 []],[iP 4,tP ⟨#[109,97,120]⟩,hI l8,iP x,.fno true 110 []]]:List (List PV))=l9.map AT:=by rw [<- Af hl9];simp only [Þ,ï,BM]<;>rfl
              obtain⟨l10,hl10,e⟩:=Ae e
              refine wr [1,84,85,86] 0 (Ez 3 (.val (oI l7)::(Ez 4 (.val (oI l8)::(Ez 2 (.val (oO l9)::(.val (oO l10)::(Ez 1 [])))))))) ⟨[(1,oO l10),(84,oI l1),(85,iP (l1.length:Int)),(86,iP v86)],[]⟩ (And.intro (Dm rfl fb3) (And.intro (Dm rfl fb4) (And.intro (Dm rfl fb5) (And.intro (ZF hl10 Cg) True.intro)))) (by kernel_rfl) ?_
              repeat first|apply z1|apply z2|apply z3|apply z4
              refine wr [1,84,85,86] 0 (Ez 2 []) ⟨[(1,oO l10),(84,oI l1),(85,iP (l1.length:Int)),(86,iP (À (v86+1)))],[]⟩ True.intro (by kernel_rfl) ?_
              repeat first|exact JO (n,(l10,(À (v86+1)))) rfl e (Ĩ _)|apply z3|apply z2|apply z1|apply z4
            . refine Fb (test hc) ?_
              repeat first|apply z1|apply z2|apply z3|apply z4
              refine wr [1,84,85,86] 0 (Ez 2 []) ⟨[(1,oO l6),(84,oI l1),(85,iP (l1.length:Int)),(86,iP (À (v86+1)))],[]⟩ True.intro (by kernel_rfl) ?_
              repeat first|exact JO (n,(l6,(À (v86+1)))) rfl e (Ĩ _)|apply z3|apply z2|apply z1|apply z4
          . intro hJ1
            rcases Am e1 with⟨hc1,e1⟩|⟨hc1,e1⟩
            . exact wr [1,9,84,85,86,103] 0 (Ez 2 (.val (.lit (.bool true))::(Ez 3 []))) ⟨[(1,oO l6),(9,iP x),(84,oI l1),(85,iP (l1.length:Int)),(86,iP v86),(103,bP true)],[]⟩ (And.intro (OY hc1) True.intro) (by kernel_rfl) (hJ1 true (Af e1))
            . exact wr [1,9,84,85,86,103] 0 (Ez 2 (.val (.lit (.bool false))::(Ez 3 []))) ⟨[(1,oO l6),(9,iP x),(84,oI l1),(85,iP (l1.length:Int)),(86,iP v86),(103,bP (x == 2))],[]⟩ (And.intro (OY hc1) True.intro) (by kernel_rfl) (hJ1 (x == 2) (Af e1))
        . refine Fb (test hc2) ?_
          repeat first|apply z1|apply z2|apply z3|apply z4
          try refine z5 rfl ?_
          repeat first|exact KG [1] 0 rfl (Ø rfl) rfl (hJ l3 (Af e))|apply z3|apply z2|apply z1|apply z4
   . obtain⟨op,f,he,hop⟩:=Ag3 i hi
     refine wrT [1,52,54] 1 (Ez 1 []) ⟨[(1,oO l),(52,.ptr 0 0),(54,bP true)],[[.mit CM (seen++[i])]]⟩ True.intro (by kernel_rfl) ?_ hK
     clear hK hP K'
     repeat first|apply z1|apply z2|apply z3|apply z4
     refine Gr rfl ?_
     repeat first|apply z1|apply z2|apply z3|apply z4
     refine Hf ?_
     repeat first|apply z1|apply z2|apply z3|apply z4
     refine Iq (by kernel_rfl) fun K' hK hP=>?_
     refine Vt (x:=.tmp 52) (d:=55) (k:=0) (i:=i) (kvs:=CM) (seen:=seen) rfl rfl rfl rfl he ?_
     refine wrT [1,4,5,52] 2 (Ez 5 []) ⟨[(1,oO l),(4,iP op),(5,.ptr 1 0),(52,.ptr 0 0)],[[.mit CM (seen++[i])],[.fno true f []]]⟩ True.intro (by kernel_rfl) ?_ hK
     clear hK hP K'
     refine OI [[.mit CM (seen++[i])]] [.fno true f []] ⟨[(1,oO l),(4,iP op),(5,.vptr [.fno true f []] 0),(52,.ptr 0 0)],[[.mit CM (seen++[i])]]⟩ (by kernel_rfl) rfl (Ø rfl) (by kernel_rfl) (by kernel_rfl) (by kernel_rfl) (by kernel_rfl) ?_
     obtain⟨r,hB,h⟩:∃ r,r=l++J0 op f/\Acb n l op f=some r:=⟨_,rfl,by rw [hn20];exact Aca l op f (Wz hlen hl)⟩
     unfold Acb at h
     repeat first|apply z1|apply z2|apply z3|apply z4
     obtain⟨l1,hl1,h⟩:=Ae h
     have fb:([[iP 1],[iP 2],[iP 4]]:List (List PV))=l1.map BJ:=by rw [<- Af hl1];simp only [Þ,ï,Bt]<;>rfl
     refine wr [1,4,5,52,58,59,60] 1 (.val (oI l1)::(.val (iP (l1.length:Int))::(Ez 1 []))) ⟨[(1,oO l),(4,iP op),(5,.vptr [.fno true f []] 0),(52,.ptr 0 0),(58,oI l1),(59,iP (l1.length:Int)),(60,iP 0)],[[.mit CM (seen++[i])]]⟩ (And.intro (Dm rfl fb) (And.intro (Y1 l1 BJ) True.intro)) (by kernel_rfl) ?_
     repeat first|apply z1|apply z2|apply z3|apply z4
     obtain⟨y,e,h⟩:=Ae h
     refine NS (A:=((List Ab)×Int×Bool)) (fun v=>v=y) (fun y=>match y with|(l2,v60,v61)=>⟨[(1,oO l2),(4,iP op),(5,.vptr [.fno true f []] 0),(52,.ptr 0 0),(58,oI l1),(59,iP (l1.length:Int)),(60,iP v60),(61,bP v61)],[[.mit CM (seen++[i])]]⟩) ?_ ?_
     . rintro⟨l2,v60,v61⟩ rfl
       show WS _ _ _ _ _ ⟨[(1,oO l2),(4,iP op),(5,.vptr [.fno true f []] 0),(52,.ptr 0 0),(58,oI l1),(59,iP (l1.length:Int)),(60,iP v60),(61,bP v61)],[[.mit CM (seen++[i])]]⟩
       repeat first|exact JO (seen++[i],l2) rfl (Agy hnd hlt hl hn hi hop hB h) (Agx hnd hlt hn hi)|apply z3|apply z2|apply z1|apply z4
     . intro hJ
       repeat first|apply z1|apply z2|apply z3|apply z4
       refine Hf ?_
       repeat first|apply z1|apply z2|apply z3|apply z4
       refine TX [1,4,5,52,58,59,60] 1 (fun a:Nat×((List Ab)×Int)=>Bm a.1 l1 op f a.2.1 a.2.2=some y) (fun a=>a.1) (fun a:Nat×((List Ab)×Int)=>match a with|(_,(l3,v601))=>⟨[(1,oO l3),(4,iP op),(5,.vptr [.fno true f []] 0),(52,.ptr 0 0),(58,oI l1),(59,iP (l1.length:Int)),(60,iP v601)],[[.mit CM (seen++[i])]]⟩) (n,(l,0)) (Ø rfl) rfl e ?_
       clear e
       rintro⟨n,l3,v601⟩ e
       show WS _ _ _ _ _ ⟨[(1,oO l3),(4,iP op),(5,.vptr [.fno true f []] 0),(52,.ptr 0 0),(58,oI l1),(59,iP (l1.length:Int)),(60,iP v601)],[[.mit CM (seen++[i])]]⟩
       cases n with
       |zero=>exact absurd e (by simp [Bm])
       |succ n =>
        replace e:=(Bz n l1 op f l3 v601).symm.trans e
        repeat first|apply z1|apply z2|apply z3|apply z4
        refine wr [1,4,5,52,58,59,60,61] 1 (Ez 1 []) ⟨[(1,oO l3),(4,iP op),(5,.vptr [.fno true f []] 0),(52,.ptr 0 0),(58,oI l1),(59,iP (l1.length:Int)),(60,iP v601),(61,bP (decide (v601<(l1.length:Int))))],[[.mit CM (seen++[i])]]⟩ True.intro (by kernel_rfl) ?_
        repeat first|apply z1|apply z2|apply z3|apply z4
        rcases Am e with⟨hc3,e⟩|⟨hc3,e⟩
        . refine Gr (test hc3) ?_
          repeat first|apply z1|apply z2|apply z3|apply z4
          refine Hf ?_
          repeat first|apply z1|apply z2|apply z3|apply z4
          obtain⟨x,hx,e⟩:=Ae e
          refine wr [1,4,5,7,52,58,59,60,61] 1 (.val (.vptr [iP x] 0)::(Ez 2 [])) ⟨[(1,oO l3),(4,iP op),(5,.vptr [.fno true f []] 0),(7,iP x),(52,.ptr 0 0),(58,oI l1),(59,iP (l1.length:Int)),(60,iP v601),(61,bP (decide (v601<(l1.length:Int))))],[[.mit CM (seen++[i])]]⟩ (And.intro (oi hx Lu (Bt x)) True.intro) (by kernel_rfl) ?_
          repeat first|apply z1|apply z2|apply z3|apply z4
          obtain⟨y1,e1,e⟩:=Ae e
          refine NS (A:=Bool) (fun v=>v=y1) (fun v73=>⟨[(1,oO l3),(4,iP op),(5,.vptr [.fno true f []] 0),(7,iP x),(52,.ptr 0 0),(58,oI l1),(59,iP (l1.length:Int)),(60,iP v601),(61,bP (decide (v601<(l1.length:Int)))),(73,bP v73)],[[.mit CM (seen++[i])]]⟩) ?_ ?_
          . rintro v73 rfl
            show WS _ _ _ _ _ ⟨[(1,oO l3),(4,iP op),(5,.vptr [.fno true f []] 0),(7,iP x),(52,.ptr 0 0),(58,oI l1),(59,iP (l1.length:Int)),(60,iP v601),(61,bP (decide (v601<(l1.length:Int)))),(73,bP v73)],[[.mit CM (seen++[i])]]⟩
            repeat first|apply z1|apply z2|apply z3|apply z4
            rcases Am e with⟨hc,e⟩|⟨hc,e⟩
            . refine Gr (test hc) ?_
              repeat first|apply z1|apply z2|apply z3|apply z4
              obtain⟨l4,hl4,e⟩:=Ae e
              have fb1:([[iP x],[iP x]]:List (List PV))=l4.map BJ:=by rw [<- Af hl4];simp only [Þ,ï,Bt]<;>rfl
              obtain⟨l5,hl5,e⟩:=Ae e
              have fb2:([[iP op,tP ⟨#[]⟩,hI l4,iP 3,.fno true 106 [.vptr [.fno true f []] 0]]]:List (List PV))=l5.map AT:=by rw [<- Af hl5];simp only [Þ,ï,BM]<;>rfl
              obtain⟨l6,hl6,e⟩:=Ae e
              refine wr [1,4,5,52,58,59,60,61] 1 (Ez 4 (.val (oI l4)::(Ez 2 (.val (oO l5)::(.val (oO l6)::(Ez 1 [])))))) ⟨[(1,oO l6),(4,iP op),(5,.vptr [.fno true f []] 0),(52,.ptr 0 0),(58,oI l1),(59,iP (l1.length:Int)),(60,iP v601),(61,bP (decide (v601<(l1.length:Int))))],[[.mit CM (seen++[i])]]⟩ (And.intro (Dm rfl fb1) (And.intro (Dm rfl fb2) (And.intro (ZF hl6 Cg) True.intro))) (by kernel_rfl) ?_
              repeat first|apply z1|apply z2|apply z3|apply z4
              refine wr [1,4,5,52,58,59,60,61] 1 (Ez 2 []) ⟨[(1,oO l6),(4,iP op),(5,.vptr [.fno true f []] 0),(52,.ptr 0 0),(58,oI l1),(59,iP (l1.length:Int)),(60,iP (À (v601+1))),(61,bP (decide (v601<(l1.length:Int))))],[[.mit CM (seen++[i])]]⟩ True.intro (by kernel_rfl) ?_
              repeat first|exact JO (n,(l6,(À (v601+1)))) rfl e (Ĩ _)|apply z3|apply z2|apply z1|apply z4
            . refine Fb (test hc) ?_
              repeat first|apply z1|apply z2|apply z3|apply z4
              refine wr [1,4,5,52,58,59,60,61] 1 (Ez 2 []) ⟨[(1,oO l3),(4,iP op),(5,.vptr [.fno true f []] 0),(52,.ptr 0 0),(58,oI l1),(59,iP (l1.length:Int)),(60,iP (À (v601+1))),(61,bP (decide (v601<(l1.length:Int))))],[[.mit CM (seen++[i])]]⟩ True.intro (by kernel_rfl) ?_
              repeat first|exact JO (n,(l3,(À (v601+1)))) rfl e (Ĩ _)|apply z3|apply z2|apply z1|apply z4
          . intro hJ1
            rcases Am e1 with⟨hc1,e1⟩|⟨hc1,e1⟩
            . exact wr [1,4,5,7,52,58,59,60,61,73] 1 (Ez 2 (.val (.lit (.bool true))::(Ez 7 []))) ⟨[(1,oO l3),(4,iP op),(5,.vptr [.fno true f []] 0),(7,iP x),(52,.ptr 0 0),(58,oI l1),(59,iP (l1.length:Int)),(60,iP v601),(61,bP (decide (v601<(l1.length:Int)))),(73,bP true)],[[.mit CM (seen++[i])]]⟩ (And.intro (OY hc1) True.intro) (by kernel_rfl) (hJ1 true (Af e1))
            . rcases Am e1 with⟨hc2,e1⟩|⟨hc2,e1⟩
              . exact wr [1,4,5,7,52,58,59,60,61,73] 1 (Ez 2 (.val (.lit (.bool false))::(Ez 3 (.val (.lit (.bool true))::(Ez 3 []))))) ⟨[(1,oO l3),(4,iP op),(5,.vptr [.fno true f []] 0),(7,iP x),(52,.ptr 0 0),(58,oI l1),(59,iP (l1.length:Int)),(60,iP v601),(61,bP (decide (v601<(l1.length:Int)))),(73,bP true)],[[.mit CM (seen++[i])]]⟩ (And.intro (OY hc1) (And.intro (OY hc2) True.intro)) (by kernel_rfl) (hJ1 true (Af e1))
              . exact wr [1,4,5,7,52,58,59,60,61,73] 1 (Ez 2 (.val (.lit (.bool false))::(Ez 3 (.val (.lit (.bool false))::(Ez 3 []))))) ⟨[(1,oO l3),(4,iP op),(5,.vptr [.fno true f []] 0),(7,iP x),(52,.ptr 0 0),(58,oI l1),(59,iP (l1.length:Int)),(60,iP v601),(61,bP (decide (v601<(l1.length:Int)))),(73,bP (op == 13))],[[.mit CM (seen++[i])]]⟩ (And.intro (OY hc1) (And.intro (OY hc2) True.intro)) (by kernel_rfl) (hJ1 (op == 13) (Af e1))
        . refine Fb (test hc3) ?_
          repeat first|apply z1|apply z2|apply z3|apply z4
          try refine z5 rfl ?_
          repeat first|exact KG [1,4,5,52,58,59,60,61] 1 rfl (Ø rfl) rfl (hJ (l3,v601,(decide (v601<(l1.length:Int)))) (Af e))|apply z3|apply z2|apply z1|apply z4
 . intro hJ
   repeat first|apply z1|apply z2|apply z3|apply z4
   refine Hf ?_
   repeat first|apply z1|apply z2|apply z3|apply z4
   refine TX [0,1,35,36,37] 0 (fun a:Nat×((List Ab)×Int)=>BP a.1 l13 a.2.1 a.2.2=some y) (fun a=>a.1) (fun a:Nat×((List Ab)×Int)=>match a with|(_,(l15,v371))=>⟨[(0,.sl [] .own),(1,oO l15),(35,oS l13),(36,iP (l13.length:Int)),(37,iP v371)],[]⟩) (n,(l12,0)) (Ø rfl) rfl e ?_
   clear e
   rintro⟨n,l15,v371⟩ e
   show WS _ _ _ _ _ ⟨[(0,.sl [] .own),(1,oO l15),(35,oS l13),(36,iP (l13.length:Int)),(37,iP v371)],[]⟩
   cases n with
   |zero=>exact absurd e (by simp [BP])
   |succ n =>
    replace e:=(I6 n l13 l15 v371).symm.trans e
    repeat first|apply z1|apply z2|apply z3|apply z4
    refine wr [0,1,35,36,37,38] 0 (Ez 1 []) ⟨[(0,.sl [] .own),(1,oO l15),(35,oS l13),(36,iP (l13.length:Int)),(37,iP v371),(38,bP (decide (v371<(l13.length:Int))))],[]⟩ True.intro (by kernel_rfl) ?_
    repeat first|apply z1|apply z2|apply z3|apply z4
    rcases Am e with⟨hc,e⟩|⟨hc,e⟩
    . refine Gr (test hc) ?_
      repeat first|apply z1|apply z2|apply z3|apply z4
      refine Hf ?_
      repeat first|apply z1|apply z2|apply z3|apply z4
      obtain⟨x,hx,e⟩:=Ae e
      refine wr [0,1,2,3,35,36,37,38] 1 (Ez 1 (.val (.vptr [tP x] 0)::(Ez 4 []))) ⟨[(0,.sl [] .own),(1,oO l15),(2,.ptr 0 0),(3,tP x),(35,oS l13),(36,iP (l13.length:Int)),(37,iP v371),(38,bP (decide (v371<(l13.length:Int))))],[[iP v371]]⟩ (And.intro (oi hx Ls (Jv x)) True.intro) (by kernel_rfl) ?_
      refine OI [] [iP v371] ⟨[(0,.sl [] .own),(1,oO l15),(2,.vptr [iP v371] 0),(3,tP x),(35,oS l13),(36,iP (l13.length:Int)),(37,iP v371),(38,bP (decide (v371<(l13.length:Int))))],[]⟩ (by kernel_rfl) rfl (Ø rfl) (by kernel_rfl) (by kernel_rfl) (by kernel_rfl) (by kernel_rfl) ?_
      repeat first|apply z1|apply z2|apply z3|apply z4
      obtain⟨l16,hl16,e⟩:=Ae e
      have fb14:([[iP 4]]:List (List PV))=l16.map BJ:=by rw [<- Af hl16];simp only [Þ,ï,Bt]<;>rfl
      obtain⟨l17,hl17,e⟩:=Ae e
      have fb15:([[iP 4,tP x,hI l16,iP 2,.fno true 98 [.vptr [iP v371] 0]]]:List (List PV))=l17.map AT:=by rw [<- Af hl17];simp only [Þ,ï,BM]<;>rfl
      obtain⟨l18,hl18,e⟩:=Ae e
      refine wr [0,1,35,36,37,38] 0 (Ez 2 (.val (oI l16)::(Ez 2 (.val (oO l17)::(.val (oO l18)::(Ez 1 [])))))) ⟨[(0,.sl [] .own),(1,oO l18),(35,oS l13),(36,iP (l13.length:Int)),(37,iP v371),(38,bP (decide (v371<(l13.length:Int))))],[]⟩ (And.intro (Dm rfl fb14) (And.intro (Dm rfl fb15) (And.intro (ZF hl18 Cg) True.intro))) (by kernel_rfl) ?_
      repeat first|apply z1|apply z2|apply z3|apply z4
      refine wr [0,1,35,36,37,38] 0 (Ez 2 []) ⟨[(0,.sl [] .own),(1,oO l18),(35,oS l13),(36,iP (l13.length:Int)),(37,iP (À (v371+1))),(38,bP (decide (v371<(l13.length:Int))))],[]⟩ True.intro (by kernel_rfl) ?_
      repeat first|exact JO (n,(l18,(À (v371+1)))) rfl e (Ĩ _)|apply z3|apply z2|apply z1|apply z4
    . refine Fb (test hc) ?_
      repeat first|apply z1|apply z2|apply z3|apply z4
      try refine z5 rfl ?_
      repeat first|exact KG [0,1,35,36,37,38] 0 rfl (Ø rfl) rfl (hJ (l15,v371,(decide (v371<(l13.length:Int)))) (Af e))|apply z3|apply z2|apply z1|apply z4
end Go.Proofs.YtehfpameijkafaaGreatDoor
namespace Go.Proofs.YtehfpameijkafaaGreatDoor
open Go.RowKit Go.Q Go.Vl Go.Sp
set_option maxRecDepth 100000
theorem Afl:CA Tryz.prog 60 [] Bj:=by
 intro σ
 refine VC.pure (Q:=fun x=>x=.ret Bj) ?_ rfl |>.mono fun x σ' h=>h
 refine VC.less (Afm (fun x σ'=>∃ y os,Ord os/\shareP y=hP (opsOf os) AT/\x=.ret y/\σ'=[]) ?_) ?_
 . intro os ho l hl r hr y hy
   refine⟨y,os,ho,?_,rfl,rfl⟩
   have h1:=XE l (Wz (ndl 6 os ho.1 ho.2.1) hl)
   rw [h1] at hr
   rw [hy,<- Af hr,hl]
   rfl
 . rintro x σ' ⟨y,os,ho,hy,rfl,rfl⟩
   refine⟨.ret Bj,⟨rfl,rfl⟩,fun w G e he=>?_⟩
   obtain⟨v,h1,h2,_⟩:=Dq.shareP he
   rw [hy] at h2
   exact⟨v,h1,.dis _ _ os _ (by rw [Z5 ho];exact h2),trivial⟩
theorem Y2:Cn [] Tryz.f61.ntmps (Tryz.f61.body.getD .skip)=true:=by kernel_rfl
theorem Abp (Q:Cl->List (List PV)->Prop)(hQ:∀ y,shareP y=Dk->Q (.ret y) []):VC Tryz.prog 61 [] [] Q:=by
 refine VC.intro ⟨[0],[]⟩ Tryz.func61 rfl follows Y2 (by rw [Tryz.ntmps61];exact Ø rfl) ?_
 refine Rz ?_
 repeat first|apply z1|apply z2|apply z3|apply z4
 refine wr [0] 0 (Ez 1 []) ⟨[(0,.lit (.map none))],[]⟩ True.intro (by kernel_rfl) ?_
 repeat first|apply z1|apply z2|apply z3|apply z4
 refine wr [0] 1 (Ez 7 []) ⟨[(0,.mref 0)],[[.mp (N3 CJ)]]⟩ True.intro (by kernel_rfl) ?_
 repeat first|apply z1|apply z2|apply z3|apply z4
 refine Xo [] (N3 CJ) ⟨[(0,Dk)],[]⟩ (by kernel_rfl) rfl (Ø rfl) (by kernel_rfl) (by kernel_rfl) (by kernel_rfl) ?_
 exact IS (HH hQ (by kernel_rfl)).1
theorem Ad1:CA Tryz.prog 61 [] Dk:=VC.fin (fun Q hQ=>Abp Q hQ) rfl rfl
theorem ZC:Cn [] Tryz.f35.ntmps (Tryz.f35.body.getD .skip)=true:=by kernel_rfl
theorem Ad2 (Q:Cl->List (List PV)->Prop)(hQ:∀ y,shareP y=.agg [Bj,Dk]->Q (.ret y) []):VC Tryz.prog 35 [] [] Q:=by
 refine VC.intro ⟨[0],[]⟩ Tryz.func35 rfl follows ZC (by rw [Tryz.ntmps35];exact Ø rfl) ?_
 refine Rz ?_
 repeat first|apply z1|apply z2|apply z3|apply z4
 refine wr [0] 1 (Ez 1 []) ⟨[(0,.ptr 0 0)],[[.sl [] .own,.lit (.map none)]]⟩ True.intro (by kernel_rfl) ?_
 repeat first|apply z1|apply z2|apply z3|apply z4
 refine wr [0] 1 (.call Bj::.call Dk::Ez 2 []) ⟨[(0,.ptr 0 0)],[[Bj,Dk]]⟩ (And.intro Afl (And.intro Ad1 True.intro)) (by kernel_rfl) ?_
 repeat first|apply z1|apply z2|apply z3|apply z4
 exact IS (HH hQ (by kernel_rfl)).1
theorem PQ:CA Tryz.prog 35 [] (.agg [Bj,Dk]):=VC.fin (fun Q hQ=>Ad2 Q hQ) rfl rfl
end Go.Proofs.YtehfpameijkafaaGreatDoor
namespace Go.Proofs.YtehfpameijkafaaGreatDoor
open Go.RowKit Go.Q Go.Vl Go.Sp
set_option maxRecDepth 100000
set_option linter.unusedSimpArgs false
set_option maxHeartbeats 4000000
set_option linter.unusedVariables false
theorem KS (m_:Ah)(x:(List Int))(r:Int)(h:FI m_ x=some r):CA Tryz.prog 82 [.agg [hZ m_.d.Facts,iP m_.d.Stored,iP m_.d.Owner,iP m_.known],hI x] (iP r):=by
 unfold FI at h
 refine vP ⟨[0,1,4],[]⟩ Tryz.func82 follows fun Q hQ=>?_
 obtain⟨x1,hx1,h⟩:=Ae h
 cases h
 exact rt 2 [(3,fi A2 hx1)] hQ
theorem Od (x:Int)(y:Int)(r:(Int×Int))(h:EZ x y=some r):CA Tryz.prog 141 [.lit (.int .u64 x),.lit (.int .u64 y)] (.tup [.lit (.int .u64 r.1),.lit (.int .u64 r.2)]):=by
 unfold EZ at h
 refine vP ⟨[0,1,4,5,6,7,8,9,10,11,12,13],[]⟩ Tryz.func141 follows fun Q hQ=>?_
 cases h
 exact rt 12 [] hQ
theorem PO (a_:Int)(b:Int)(r:Int)(h:D4 a_ b=some r):CA Tryz.prog 84 [iP a_,iP b] (iP r):=by
 unfold D4 at h
 refine vP ⟨[0,1,4,5,6,7,27,34],[]⟩ Tryz.func84 follows fun Q hQ=>?_
 obtain⟨m_,hm_,h⟩:=Ae h
 refine mE 3 [(11,fk (Od _ _ _ hm_))] h (fun v27=>⟨[(0,iP a_),(1,iP b),(4,iP 0),(6,.lit (.int .u64 m_.2)),(7,iP 999999999999999),(27,bP v27)],[]⟩) ?_ fun y e hJ=>?_
 rintro v27 h
 refine mE 0 [] h (fun n_=>⟨[(0,iP a_),(1,iP b),(4,iP 0),(7,iP n_)],[]⟩) ?_ fun y1 e1 hJ1=>?_
 rintro n_ h
 refine cD 1 [] h (fun hc h=>?_) fun hc h=>?_
 cases h
 exact rt 1 [] hQ
 cases h
 exact rt 1 [] hQ
 refine cD 0 [] e1 (fun hc1 e1=>?_) fun hc1 e1=>?_
 exact mJ 1 [] (hJ1 _ (oj e1))
 exact mJ 0 [] (hJ1 _ (oj e1))
 rcases Am e with⟨hc2,e⟩|⟨hc2,e⟩
 exact mJ 1 [(2,fo hc2)] (hJ _ (oj e))
 exact mJ 1 [(2,fo hc2)] (hJ _ (oj e))
theorem KQ (m_:Ah)(x:(List Int))(r:Int)(h:FH m_ x=some r):CA Tryz.prog 83 [.agg [hZ m_.d.Facts,iP m_.d.Stored,iP m_.d.Owner,iP m_.known],hI x] (iP r):=by
 unfold FH at h
 refine vP ⟨[0,1,4],[(1,[9999,0,0,1,2,3,4,5,6,7])]⟩ Tryz.func83 follows fun Q hQ=>?_
 obtain⟨x1,hx1,h⟩:=Ae h
 obtain⟨x2,hx2,h⟩:=Ae h
 obtain⟨t,ht,h⟩:=Ae h
 cases h
 exact rt 2 [(3,fi A2 hx1),(2,fi A2 hx2),(1,fk (PO _ _ _ ht))] hQ
theorem K7 (n_:Int)(r:Int)(h:CP n_=some r):CA Tryz.prog 86 [iP n_] (iP r):=by
 unfold CP at h
 refine vP ⟨[0,2],[]⟩ Tryz.func86 follows fun Q hQ=>?_
 cases h
 exact rt 2 [] hQ
theorem KO (m_:Ah)(x:(List Int))(r:Int)(h:FG m_ x=some r):CA Tryz.prog 85 [.agg [hZ m_.d.Facts,iP m_.d.Stored,iP m_.d.Owner,iP m_.known],hI x] (iP r):=by
 unfold FG at h
 refine vP ⟨[0,1,4],[(1,[9999,0,0,1,2,3,4,5,6,7,8])]⟩ Tryz.func85 follows fun Q hQ=>?_
 obtain⟨x1,hx1,h⟩:=Ae h
 obtain⟨x2,hx2,h⟩:=Ae h
 obtain⟨n_,hn_,h⟩:=Ae h
 cases h
 exact rt 2 [(3,fi A2 hx1),(2,fi A2 hx2),(2,fk (K7 _ _ hn_))] hQ
theorem Nk (n_:Int)(r:Int)(h:FJ n_=some r):CA Tryz.prog 96 [iP n_] (iP r):=by
 unfold FJ at h
 refine vP ⟨[0,2],[]⟩ Tryz.func96 follows fun Q hQ=>?_
 cases h
 exact rt 2 [] hQ
theorem Le (d:Int)(n_:Int)(r:Int)(h:D5 d n_=some r):CA Tryz.prog 88 [iP d,iP n_] (iP r):=by
 unfold D5 at h
 refine vP ⟨[0,1,4,6],[]⟩ Tryz.func88 follows fun Q hQ=>?_
 refine cD 2 [] h (fun hc h=>?_) fun hc h=>?_
 cases h
 exact rt 1 [] hQ
 obtain⟨d1,hd1,h⟩:=Ae h
 cases h
 exact rt 1 [(3,fk (Nk _ _ hd1))] hQ
theorem KN (m_:Ah)(x:(List Int))(r:Int)(h:FF m_ x=some r):CA Tryz.prog 87 [.agg [hZ m_.d.Facts,iP m_.d.Stored,iP m_.d.Owner,iP m_.known],hI x] (iP r):=by
 unfold FF at h
 refine vP ⟨[0,1,4],[(1,[9999,0,0,1,2,3,4,5,6,7])]⟩ Tryz.func87 follows fun Q hQ=>?_
 obtain⟨x1,hx1,h⟩:=Ae h
 obtain⟨x2,hx2,h⟩:=Ae h
 obtain⟨m_1,hm_1,h⟩:=Ae h
 cases h
 exact rt 2 [(3,fi A2 hx1),(2,fi A2 hx2),(1,fk (Le _ _ _ hm_1))] hQ
theorem KM (m_:Ah)(x:(List Int))(r:Int)(h:FE m_ x=some r):CA Tryz.prog 89 [.agg [hZ m_.d.Facts,iP m_.d.Stored,iP m_.d.Owner,iP m_.known],hI x] (iP r):=by
 unfold FE at h
 refine vP ⟨[0,1,4],[(1,[9999,0,0,1,2,3,4,5,6,7,8])]⟩ Tryz.func89 follows fun Q hQ=>?_
 obtain⟨x1,hx1,h⟩:=Ae h
 obtain⟨x2,hx2,h⟩:=Ae h
 obtain⟨n_,hn_,h⟩:=Ae h
 cases h
 exact rt 2 [(3,fi A2 hx1),(2,fi A2 hx2),(2,fk (K7 _ _ hn_))] hQ
theorem KL (m_:Ah)(x:(List Int))(r:Int)(h:FD m_ x=some r):CA Tryz.prog 90 [.agg [hZ m_.d.Facts,iP m_.d.Stored,iP m_.d.Owner,iP m_.known],hI x] (iP r):=by
 unfold FD at h
 refine vP ⟨[0,1,4],[(1,[9999,0,0,1,2,3,4,5,6,7,8])]⟩ Tryz.func90 follows fun Q hQ=>?_
 obtain⟨x1,hx1,h⟩:=Ae h
 obtain⟨x2,hx2,h⟩:=Ae h
 obtain⟨m_1,hm_1,h⟩:=Ae h
 cases h
 exact rt 2 [(3,fi A2 hx1),(2,fi A2 hx2),(2,fk (Le _ _ _ hm_1))] hQ
theorem KK (m_:Ah)(x:(List Int))(r:Int)(h:FC m_ x=some r):CA Tryz.prog 91 [.agg [hZ m_.d.Facts,iP m_.d.Stored,iP m_.d.Owner,iP m_.known],hI x] (iP r):=by
 unfold FC at h
 refine vP ⟨[0,1,4],[(1,[9999,0,0,1,2,3,4,5,6,7])]⟩ Tryz.func91 follows fun Q hQ=>?_
 obtain⟨x1,hx1,h⟩:=Ae h
 obtain⟨x2,hx2,h⟩:=Ae h
 cases h
 exact rt 2 [(3,fi A2 hx1),(2,fi A2 hx2)] hQ
theorem KJ (m_:Ah)(x:(List Int))(r:Int)(h:FB m_ x=some r):CA Tryz.prog 92 [.agg [hZ m_.d.Facts,iP m_.d.Stored,iP m_.d.Owner,iP m_.known],hI x] (iP r):=by
 unfold FB at h
 refine vP ⟨[0,1,4],[]⟩ Tryz.func92 follows fun Q hQ=>?_
 obtain⟨x1,hx1,h⟩:=Ae h
 cases h
 exact rt 2 [(3,fi A2 hx1)] hQ
theorem KI (m_:Ah)(x:(List Int))(r:Int)(h:FA m_ x=some r):CA Tryz.prog 93 [.agg [hZ m_.d.Facts,iP m_.d.Stored,iP m_.d.Owner,iP m_.known],hI x] (iP r):=by
 unfold FA at h
 refine vP ⟨[0,1,4],[(1,[9999,0,0,1,2,3,4,5,6,7])]⟩ Tryz.func93 follows fun Q hQ=>?_
 obtain⟨x1,hx1,h⟩:=Ae h
 obtain⟨x2,hx2,h⟩:=Ae h
 cases h
 exact rt 2 [(3,fi A2 hx1),(2,fi A2 hx2)] hQ
theorem Kd (m_:Ah)(x:(List Int))(r:Int)(h:Fw m_ x=some r):CA Tryz.prog 94 [.agg [hZ m_.d.Facts,iP m_.d.Stored,iP m_.d.Owner,iP m_.known],hI x] (iP r):=by
 unfold Fw at h
 refine vP ⟨[0,1,4],[(1,[9999,0,0,1,2,3,4,5,6,7])]⟩ Tryz.func94 follows fun Q hQ=>?_
 obtain⟨x1,hx1,h⟩:=Ae h
 obtain⟨x2,hx2,h⟩:=Ae h
 cases h
 exact rt 2 [(3,fi A2 hx1),(2,fi A2 hx2)] hQ
theorem Kc (m_:Ah)(x:(List Int))(r:Int)(h:Fv m_ x=some r):CA Tryz.prog 95 [.agg [hZ m_.d.Facts,iP m_.d.Stored,iP m_.d.Owner,iP m_.known],hI x] (iP r):=by
 unfold Fv at h
 refine vP ⟨[0,1,4],[]⟩ Tryz.func95 follows fun Q hQ=>?_
 obtain⟨x1,hx1,h⟩:=Ae h
 obtain⟨d,hd,h⟩:=Ae h
 cases h
 exact rt 2 [(3,fi A2 hx1),(1,fk (Nk _ _ hd))] hQ
theorem Kb (m_:Ah)(x:(List Int))(r:Int)(h:Fu m_ x=some r):CA Tryz.prog 97 [.agg [hZ m_.d.Facts,iP m_.d.Stored,iP m_.d.Owner,iP m_.known],hI x] (iP r):=by
 unfold Fu at h
 refine vP ⟨[0,1,4],[]⟩ Tryz.func97 follows fun Q hQ=>?_
 obtain⟨x1,hx1,h⟩:=Ae h
 cases h
 exact rt 2 [(3,fi A2 hx1)] hQ
theorem JT (m_:Ah)(x:(List Int))(r:Int)(h:Fk m_ x=some r):CA Tryz.prog 108 [.agg [hZ m_.d.Facts,iP m_.d.Stored,iP m_.d.Owner,iP m_.known],hI x] (iP r):=by
 unfold Fk at h
 refine vP ⟨[0,1,4],[]⟩ Tryz.func108 follows fun Q hQ=>?_
 obtain⟨x1,hx1,h⟩:=Ae h
 obtain⟨x2,hx2,h⟩:=Ae h
 cases h
 exact rt 2 [(4,fi A2 hx1),(2,fi A2 hx2)] hQ
theorem JS (m_:Ah)(x:(List Int))(r:Int)(h:Fj m_ x=some r):CA Tryz.prog 109 [.agg [hZ m_.d.Facts,iP m_.d.Stored,iP m_.d.Owner,iP m_.known],hI x] (iP r):=by
 unfold Fj at h
 refine vP ⟨[0,1,4],[(1,[9999,0,0,1,2,3,4,5,6,7])]⟩ Tryz.func109 follows fun Q hQ=>?_
 obtain⟨x1,hx1,h⟩:=Ae h
 obtain⟨x2,hx2,h⟩:=Ae h
 cases h
 exact rt 2 [(3,fi A2 hx1),(2,fi A2 hx2)] hQ
theorem JR (m_:Ah)(x:(List Int))(r:Int)(h:Fi m_ x=some r):CA Tryz.prog 110 [.agg [hZ m_.d.Facts,iP m_.d.Stored,iP m_.d.Owner,iP m_.known],hI x] (iP r):=by
 unfold Fi at h
 refine vP ⟨[0,1,4],[(1,[9999,0,0,1,2,3,4,5,6,7])]⟩ Tryz.func110 follows fun Q hQ=>?_
 obtain⟨x1,hx1,h⟩:=Ae h
 obtain⟨x2,hx2,h⟩:=Ae h
 cases h
 exact rt 2 [(3,fi A2 hx1),(2,fi A2 hx2)] hQ
theorem JZ (a_:Int)(b:Int)(r:Bool)(h:Fs a_ b=some r):CA Tryz.prog 100 [iP a_,iP b] (bP r):=by
 unfold Fs at h
 refine vP ⟨[0,1,4],[]⟩ Tryz.func100 follows fun Q hQ=>?_
 cases h
 exact rt 2 [] hQ
theorem JY (a_:Int)(b:Int)(r:Bool)(h:Fq a_ b=some r):CA Tryz.prog 101 [iP a_,iP b] (bP r):=by
 unfold Fq at h
 refine vP ⟨[0,1,4],[]⟩ Tryz.func101 follows fun Q hQ=>?_
 cases h
 exact rt 2 [] hQ
theorem JX (a_:Int)(b:Int)(r:Bool)(h:Fp a_ b=some r):CA Tryz.prog 102 [iP a_,iP b] (bP r):=by
 unfold Fp at h
 refine vP ⟨[0,1,4],[]⟩ Tryz.func102 follows fun Q hQ=>?_
 cases h
 exact rt 2 [] hQ
theorem JW (a_:Int)(b:Int)(r:Bool)(h:Fo a_ b=some r):CA Tryz.prog 103 [iP a_,iP b] (bP r):=by
 unfold Fo at h
 refine vP ⟨[0,1,4],[]⟩ Tryz.func103 follows fun Q hQ=>?_
 cases h
 exact rt 2 [] hQ
theorem JV (a_:Int)(b:Int)(r:Bool)(h:Fm a_ b=some r):CA Tryz.prog 104 [iP a_,iP b] (bP r):=by
 unfold Fm at h
 refine vP ⟨[0,1,4],[]⟩ Tryz.func104 follows fun Q hQ=>?_
 cases h
 exact rt 2 [] hQ
theorem JU (a_:Int)(b:Int)(r:Bool)(h:Fl a_ b=some r):CA Tryz.prog 105 [iP a_,iP b] (bP r):=by
 unfold Fl at h
 refine vP ⟨[0,1,4],[]⟩ Tryz.func105 follows fun Q hQ=>?_
 cases h
 exact rt 2 [] hQ
theorem M6 (n:Nat)(m_:Ah)(kind:Int)(who:Int)(r:Int)(h:C5 n m_ kind who=some r):CA Tryz.prog 99 [.agg [hZ m_.d.Facts,iP m_.d.Stored,iP m_.d.Owner,iP m_.known],iP kind,iP who] (iP r):=by
 unfold C5 at h
 refine vP ⟨[0,1,2,3,6,7,8,9,12,13,14,15,51,55],[(5,[9999,0,0,1,2,3,4,5,6,7,8,9,10,11,12,13,14,15,16,17,18,19,20,21,22,23,24,25,26,27,28,29,30,31,32])]⟩ Tryz.func99 follows fun Q hQ=>?_
 refine mE 3 [(6,fl B2 m_.d.Facts)] h (fun best=>⟨[(3,.ptr 0 0),(6,iP 0),(7,iP best)],[[hZ m_.d.Facts,iP m_.d.Stored,iP m_.d.Owner,iP m_.known]]⟩) ?_ fun y e hJ=>?_
 rintro best h
 refine cD 1 [] h (fun hc h=>?_) fun hc h=>?_
 cases h
 exact rt 1 [] hQ
 obtain⟨x,hx,h⟩:=Ae h
 cases h
 exact rt 1 [(4,fi B2 hx)] hQ
 refine lF 1 [] (A:=(Int×Int)) (fun n (best1,v14)=>Bp n m_ kind who best1 v14) (fun (best1,v14)=>⟨[(1,iP kind),(2,iP who),(3,.ptr 0 0),(6,iP 0),(7,iP best1),(12,hZ m_.d.Facts),(13,iP (m_.d.Facts.length:Int)),(14,iP v14)],[[hZ m_.d.Facts,iP m_.d.Stored,iP m_.d.Owner,iP m_.known]]⟩) (-1,0) e (fun _=>rfl) ?_
 rintro n ⟨best1,v14⟩ e ih
 replace e:=(Bp.eq_2 ..).symm.trans e
 refine cD 1 [] e (fun hc6 e=>?_) fun hc6 e=>?_
 obtain⟨x1,hx1,e⟩:=Ae e
 refine mE 2 [(1,fi B2 hx1)] e (fun v51=>⟨[(1,iP kind),(2,iP who),(3,.ptr 0 0),(6,iP 0),(7,iP best1),(8,iP v14),(12,hZ m_.d.Facts),(13,iP (m_.d.Facts.length:Int)),(14,iP v14),(51,bP v51)],[[hZ m_.d.Facts,iP m_.d.Stored,iP m_.d.Owner,iP m_.known],[iP x1.Kind,iP x1.Who,iP x1.Day,iP x1.Known]]⟩) ?_ fun y1 e1 hJ1=>?_
 rintro v51 e
 refine cD 0 [] e (fun hc1 e=>?_) fun hc1 e=>?_
 exact mJ 2 [] (ih (_,_) e)
 exact mJ 1 [] (ih (_,_) e)
 rcases Am e1 with⟨hc2,e1⟩|⟨hc2,e1⟩
 rcases Am e1 with⟨hc3,e1⟩|⟨hc3,e1⟩
 rcases Am e1 with⟨hc4,e1⟩|⟨hc4,e1⟩
 rcases Am e1 with⟨hc5,e1⟩|⟨hc5,e1⟩
 exact mJ 1 [(4,fo hc2),(5,fo hc3),(6,fo hc4),(2,fo hc5)] (hJ1 _ (oj e1))
 obtain⟨x2,hx2,e1⟩:=Ae e1
 exact mJ 1 [(4,fo hc2),(5,fo hc3),(6,fo hc4),(2,fo hc5),(6,fi B2 hx2)] (hJ1 _ (oj e1))
 exact mJ 1 [(4,fo hc2),(5,fo hc3),(6,fo hc4)] (hJ1 _ (oj e1))
 exact mJ 1 [(4,fo hc2),(5,fo hc3)] (hJ1 _ (oj e1))
 exact mJ 1 [(4,fo hc2)] (hJ1 _ (oj e1))
 exact mJ 1 [] (hJ _ (oj e))
theorem Fc (b:Bool)(r:Int)(h:Dt b=some r):CA Tryz.prog 107 [bP b] (iP r):=by
 unfold Dt at h
 refine vP ⟨[0,2,3],[]⟩ Tryz.func107 follows fun Q hQ=>?_
 refine cD 2 [] h (fun hc h=>?_) fun hc h=>?_
 cases h
 exact rt 1 [] hQ
 cases h
 exact rt 1 [] hQ
theorem Ka (n:Nat)(k:Int)(m_:Ah)(x:(List Int))(r:Int)(h:Ft n k m_ x=some r):CA Tryz.prog 98 [.agg [hZ m_.d.Facts,iP m_.d.Stored,iP m_.d.Owner,iP m_.known],hI x,.vptr [iP k] 0] (iP r):=by
 unfold Ft at h
 refine vP ⟨[0,1,2,3,5],[(1,[9999,0,0,1,2,3,4,5,6,7])]⟩ Tryz.func98 follows fun Q hQ=>?_
 obtain⟨x1,hx1,h⟩:=Ae h
 obtain⟨f,hf,h⟩:=Ae h
 cases h
 exact rt 2 [(6,fi A2 hx1),(1,fk (M6 _ _ _ _ _ hf))] hQ
theorem Iz (m_:Ah)(x:(List Int))(r:Int)(h:DT m_ x=some r):CA Tryz.prog 106 [.agg [hZ m_.d.Facts,iP m_.d.Stored,iP m_.d.Owner,iP m_.known],hI x,.vptr [.fno true 100 []] 0] (iP r):=by
 unfold DT at h
 refine vP ⟨[0,1,2,5],[(1,[9999,0,0,1,2,3,4,5,6,7,8,9])]⟩ Tryz.func106 follows fun Q hQ=>?_
 obtain⟨x1,hx1,h⟩:=Ae h
 obtain⟨x2,hx2,h⟩:=Ae h
 obtain⟨o_,ho_,h⟩:=Ae h
 obtain⟨f,hf,h⟩:=Ae h
 cases h
 exact rt 2 [(4,fi A2 hx1),(2,fi A2 hx2),(1,fk (JZ _ _ _ ho_)),(0,fk (Fc _ _ hf))] hQ
theorem Iy (m_:Ah)(x:(List Int))(r:Int)(h:DS m_ x=some r):CA Tryz.prog 106 [.agg [hZ m_.d.Facts,iP m_.d.Stored,iP m_.d.Owner,iP m_.known],hI x,.vptr [.fno true 101 []] 0] (iP r):=by
 unfold DS at h
 refine vP ⟨[0,1,2,5],[(1,[9999,0,0,1,2,3,4,5,6,7,8,9])]⟩ Tryz.func106 follows fun Q hQ=>?_
 obtain⟨x1,hx1,h⟩:=Ae h
 obtain⟨x2,hx2,h⟩:=Ae h
 obtain⟨o_,ho_,h⟩:=Ae h
 obtain⟨f,hf,h⟩:=Ae h
 cases h
 exact rt 2 [(4,fi A2 hx1),(2,fi A2 hx2),(1,fk (JY _ _ _ ho_)),(0,fk (Fc _ _ hf))] hQ
theorem Ix (m_:Ah)(x:(List Int))(r:Int)(h:DR m_ x=some r):CA Tryz.prog 106 [.agg [hZ m_.d.Facts,iP m_.d.Stored,iP m_.d.Owner,iP m_.known],hI x,.vptr [.fno true 102 []] 0] (iP r):=by
 unfold DR at h
 refine vP ⟨[0,1,2,5],[(1,[9999,0,0,1,2,3,4,5,6,7,8,9])]⟩ Tryz.func106 follows fun Q hQ=>?_
 obtain⟨x1,hx1,h⟩:=Ae h
 obtain⟨x2,hx2,h⟩:=Ae h
 obtain⟨o_,ho_,h⟩:=Ae h
 obtain⟨f,hf,h⟩:=Ae h
 cases h
 exact rt 2 [(4,fi A2 hx1),(2,fi A2 hx2),(1,fk (JX _ _ _ ho_)),(0,fk (Fc _ _ hf))] hQ
theorem Iw (m_:Ah)(x:(List Int))(r:Int)(h:DQ m_ x=some r):CA Tryz.prog 106 [.agg [hZ m_.d.Facts,iP m_.d.Stored,iP m_.d.Owner,iP m_.known],hI x,.vptr [.fno true 103 []] 0] (iP r):=by
 unfold DQ at h
 refine vP ⟨[0,1,2,5],[(1,[9999,0,0,1,2,3,4,5,6,7,8,9])]⟩ Tryz.func106 follows fun Q hQ=>?_
 obtain⟨x1,hx1,h⟩:=Ae h
 obtain⟨x2,hx2,h⟩:=Ae h
 obtain⟨o_,ho_,h⟩:=Ae h
 obtain⟨f,hf,h⟩:=Ae h
 cases h
 exact rt 2 [(4,fi A2 hx1),(2,fi A2 hx2),(1,fk (JW _ _ _ ho_)),(0,fk (Fc _ _ hf))] hQ
theorem Iv (m_:Ah)(x:(List Int))(r:Int)(h:DP m_ x=some r):CA Tryz.prog 106 [.agg [hZ m_.d.Facts,iP m_.d.Stored,iP m_.d.Owner,iP m_.known],hI x,.vptr [.fno true 104 []] 0] (iP r):=by
 unfold DP at h
 refine vP ⟨[0,1,2,5],[(1,[9999,0,0,1,2,3,4,5,6,7,8,9])]⟩ Tryz.func106 follows fun Q hQ=>?_
 obtain⟨x1,hx1,h⟩:=Ae h
 obtain⟨x2,hx2,h⟩:=Ae h
 obtain⟨o_,ho_,h⟩:=Ae h
 obtain⟨f,hf,h⟩:=Ae h
 cases h
 exact rt 2 [(4,fi A2 hx1),(2,fi A2 hx2),(1,fk (JV _ _ _ ho_)),(0,fk (Fc _ _ hf))] hQ
theorem Iu (m_:Ah)(x:(List Int))(r:Int)(h:DO m_ x=some r):CA Tryz.prog 106 [.agg [hZ m_.d.Facts,iP m_.d.Stored,iP m_.d.Owner,iP m_.known],hI x,.vptr [.fno true 105 []] 0] (iP r):=by
 unfold DO at h
 refine vP ⟨[0,1,2,5],[(1,[9999,0,0,1,2,3,4,5,6,7,8,9])]⟩ Tryz.func106 follows fun Q hQ=>?_
 obtain⟨x1,hx1,h⟩:=Ae h
 obtain⟨x2,hx2,h⟩:=Ae h
 obtain⟨o_,ho_,h⟩:=Ae h
 obtain⟨f,hf,h⟩:=Ae h
 cases h
 exact rt 2 [(4,fi A2 hx1),(2,fi A2 hx2),(1,fk (JU _ _ _ ho_)),(0,fk (Fc _ _ hf))] hQ
end Go.Proofs.YtehfpameijkafaaGreatDoor
namespace Go.Proofs.YtehfpameijkafaaGreatDoor
open Go.RowKit Go.Q Go.Vl Go.Sp
set_option maxRecDepth 100000
set_option linter.unusedSimpArgs false
set_option maxHeartbeats 4000000
set_option linter.unusedVariables false
theorem Ni (op:Int)(r:Int)(h:E4 op=some r):CA Tryz.prog 66 [iP op] (iP r):=by
 unfold E4 at h
 refine vP ⟨[0,2,3,4,8,11,13],[]⟩ Tryz.func66 follows fun Q hQ=>?_
 refine mE 4 [] h (fun v4=>⟨[(2,iP 0),(3,iP op),(4,bP v4)],[]⟩) ?_ fun y e hJ=>?_
 rintro v4 h
 refine cD 0 [] h (fun hc4 h=>?_) fun hc4 h=>?_
 cases h
 exact rt 1 [] hQ
 refine mE 1 [] h (fun v8=>⟨[(2,iP 0),(3,iP op),(8,bP v8)],[]⟩) ?_ fun y1 e1 hJ1=>?_
 rintro v8 h
 refine cD 0 [] h (fun hc2 h=>?_) fun hc2 h=>?_
 cases h
 exact rt 1 [] hQ
 refine cD 1 [] h (fun hc1 h=>?_) fun hc1 h=>?_
 cases h
 exact rt 1 [] hQ
 refine cD 1 [] h (fun hc h=>?_) fun hc h=>?_
 cases h
 exact rt 1 [] hQ
 cases h
 exact rt 1 [] hQ
 refine cD 0 [] e1 (fun hc3 e1=>?_) fun hc3 e1=>?_
 exact mJ 0 [] (hJ1 _ (oj e1))
 exact mJ 1 [] (hJ1 _ (oj e1))
 refine cD 0 [] e (fun hc6 e=>?_) fun hc6 e=>?_
 exact mJ 0 [] (hJ _ (oj e))
 refine cD 1 [] e (fun hc5 e=>?_) fun hc5 e=>?_
 exact mJ 0 [] (hJ _ (oj e))
 exact mJ 1 [] (hJ _ (oj e))
theorem Bs (s:(List Ab))(s1:(List (ByteArray×Int)))(e:Int)(e1:Int)(e2:Æ)(e3:(List Ag))(e4:Int)(o_:Int)(o_1:Æ)(o_2:(List Int))(o_3:Int)(o_4:Do)(p:Int)(p1:Int)(x:Int)(r:(Int×Ab×An))(h:AV s s1 e e1 e2 e3 e4 o_ o_1 o_2 o_3 o_4 p p1 x=some r):J1 Tryz.prog 65 [iP x,.ptr 1 0] [[hO s,.vmp (N3 s1)],[iP e,iP e1,tP e2,hX e3,iP e4],[iP o_,tP o_1,oI o_2,iP o_3,.fno (LB o_4) (Kt o_4) (KE o_4)],[iP p,iP p1]] (.ret (.tup [iP r.1,.agg [iP r.2.1.op,tP r.2.1.name,hI r.2.1.args,iP r.2.1.kind,.fno (LB r.2.1.do_) (Kt r.2.1.do_) (KE r.2.1.do_)],.agg [iP r.2.2.At,iP r.2.2.E]])) [[hO s,.vmp (N3 s1)],[iP e,iP e1,tP e2,hX e3,iP e4],[iP o_,tP o_1,oI o_2,iP o_3,.fno (LB o_4) (Kt o_4) (KE o_4)],[iP p,iP p1]]:=by
 unfold AV at h
 refine vS ⟨[0,1,3,4,5],[(1,[9999,1,4,0,1,2,3,4,5,6,7])]⟩ Tryz.func65 follows fun Q hQ=>?_
 cases h
 exact rt 2 [] hQ
theorem Ob (n:Nat)(s1:(List Int))(s2:(List Int))(r:Bool)(h:Dl n s1 s2=some r):CA Tryz.prog 67 [hI s1,hI s2] (bP r):=by
 unfold Dl at h
 refine vP ⟨[0,1,4,5,10,12,13,14,24],[]⟩ Tryz.func67 follows fun Q hQ=>?_
 refine cD 2 [(2,fl A2 s1),(1,fl A2 s2)] h (fun hc2 h=>?_) fun hc2 h=>?_
 cases h
 exact rt 1 [] hQ
 refine mI 1 [(1,fl A2 s1)] h (fun _=>⟨[(4,bP false)],[]⟩) ?_ fun y e h hJ=>?_
 rintro _ h
 cases h
 exact rt 1 [] hQ
 refine lF 1 [] (A:=Int) (fun n v13=>BH n s1 s2 v13) (fun v13=>⟨[(0,hI s1),(1,hI s2),(4,bP false),(12,iP (s1.length:Int)),(13,iP v13)],[]⟩) 0 e (fun _=>rfl) ?_
 rintro n v13 e ih
 replace e:=(BH.eq_2 ..).symm.trans e
 refine cD 1 [] e (fun hc1 e=>?_) fun hc1 e=>?_
 obtain⟨x,hx,e⟩:=Ae e
 obtain⟨x1,hx1,e⟩:=Ae e
 refine cD 3 [(4,fi A2 hx),(3,fi A2 hx1)] e (fun hc e=>?_) fun hc e=>?_
 cases e
 cases h
 exact rt 1 [] hQ
 exact mJ 1 [] (ih _ e)
 exact mJ 1 [] (hJ _ (oj e))
theorem JQ (n0:Nat)
 (ih_statute_solver_find:∀ m,m<=n0->∀ (s:AW) (e:Ag) (r:(Int×Ab×An)),A4 m s e=some r->CA Tryz.prog 40 [.agg [hO s.ops,.vmp (N3 s.names)],.agg [iP e.Op,iP e.N,tP e.S,hX e.Kids,iP e.At]] (.tup [iP r.1,.agg [iP r.2.1.op,tP r.2.1.name,hI r.2.1.args,iP r.2.1.kind,.fno (LB r.2.1.do_) (Kt r.2.1.do_) (KE r.2.1.do_)],.agg [iP r.2.2.At,iP r.2.2.E]]))
 (n:Nat) (hn:n<=n0) (s:AW) (e:Ag) (r:(Int×Ab×An)) (h:A4 (n+1) s e=some r):CA Tryz.prog 40 [.agg [hO s.ops,.vmp (N3 s.names)],.agg [iP e.Op,iP e.N,tP e.S,hX e.Kids,iP e.At]] (.tup [iP r.1,.agg [iP r.2.1.op,tP r.2.1.name,hI r.2.1.args,iP r.2.1.kind,.fno (LB r.2.1.do_) (Kt r.2.1.do_) (KE r.2.1.do_)],.agg [iP r.2.2.At,iP r.2.2.E]]):=by
 replace h:=(A4.eq_2 ..).symm.trans h
 refine vP ⟨[0,1,2,3,4,5,6,7,8,9,11,12,14,15,16,17,18,20,43,50,51,52,53,65,74,75,84,92,99,109,119,120,121,122,141,154,160,173],[(11,[9999,1,2,0,1,2,3,4]),(18,[9999,1,2,0,1,2,3,4]),(24,[9999,1,2,0,1,2,3,4,5]),(31,[9999,0,0,1,2,3,4,5,6,7,8,9,10]),(33,[9999,1,2,0,1,2,3,4,5,6])]⟩ Tryz.func40 follows fun Q hQ=>?_
 obtain⟨n_,hn_,h⟩:=Ae h
 refine mE 3 [(9,fk (Ni _ _ hn_))] h (fun v43=>⟨[(2,.ptr 0 0),(3,.ptr 1 0),(4,iP 0),(5,.ptr 2 0),(6,.ptr 3 0),(7,.fn 65 [.ptr 1 0]),(43,bP v43)],[[hO s.ops,.vmp (N3 s.names)],[iP e.Op,iP e.N,tP e.S,hX e.Kids,iP e.At],[iP 0,tP ⟨#[]⟩,.sl [] .own,iP 0,.fno (LB Do.nil) (Kt Do.nil) (KE Do.nil)],[iP 0,iP 0]]⟩) ?_ fun y e1 hJ=>?_
 rintro v43 h
 refine cD 0 [] h (fun hc18 h=>?_) fun hc18 h=>?_
 obtain⟨f,hf,h⟩:=Ae h
 cases h
 exact rt 1 [(1,fs (Bs _ _ _ _ _ _ _ _ _ _ _ _ _ _ _ _ hf))] hQ
 refine mI 2 [(3,fl B3 e.Kids)] h (fun types=>⟨[(2,.ptr 0 0),(3,.ptr 1 0),(4,iP 0),(5,.ptr 2 0),(6,.ptr 3 0),(7,.fn 65 [.ptr 1 0]),(9,oI types)],[[hO s.ops,.vmp (N3 s.names)],[iP e.Op,iP e.N,tP e.S,hX e.Kids,iP e.At],[iP 0,tP ⟨#[]⟩,.sl [] .own,iP 0,.fno (LB Do.nil) (Kt Do.nil) (KE Do.nil)],[iP 0,iP 0]]⟩) ?_ fun y1 e2 h hJ1=>?_
 rintro types h
 refine cD 3 [] h (fun hc15 h=>?_) fun hc15 h=>?_
 refine mE 0 [] h (fun v84=>⟨[(2,.ptr 0 0),(3,.ptr 1 0),(4,iP 0),(5,.ptr 2 0),(6,.ptr 3 0),(7,.fn 65 [.ptr 1 0]),(9,oI types),(84,bP v84)],[[hO s.ops,.vmp (N3 s.names)],[iP e.Op,iP e.N,tP e.S,hX e.Kids,iP e.At],[iP 0,tP ⟨#[]⟩,.sl [] .own,iP 0,.fno (LB Do.nil) (Kt Do.nil) (KE Do.nil)],[iP 0,iP 0]]⟩) ?_ fun y2 e3 hJ2=>?_
 rintro v84 h
 refine cD 0 [] h (fun hc h=>?_) fun hc h=>?_
 obtain⟨f1,hf1,h⟩:=Ae h
 cases h
 exact rt 1 [(1,fs (Bs _ _ _ _ _ _ _ _ _ _ _ _ _ _ _ _ hf1))] hQ
 cases h
 exact rt 1 [] hQ
 rcases Am e3 with⟨hc1,e3⟩|⟨hc1,e3⟩
 exact mJ 1 [(3,fo hc1)] (hJ2 _ (oj e3))
 exact mJ 1 [(3,fo hc1)] (hJ2 _ (oj e3))
 refine cD 1 [] h (fun hc14 h=>?_) fun hc14 h=>?_
 obtain⟨f2,hf2,h⟩:=Ae h
 cases h
 exact rt 1 [(1,fs (Bs _ _ _ _ _ _ _ _ _ _ _ _ _ _ _ _ hf2))] hQ
 refine cD 1 [] h (fun hc13 h=>?_) fun hc13 h=>?_
 refine cD 2 [(4,fLS s.names e.S)] h (fun hc2 h=>?_) fun hc2 h=>?_
 cases h
 exact rt 1 [] hQ
 obtain⟨f3,hf3,h⟩:=Ae h
 cases h
 exact rt 1 [(1,fs (Bs _ _ _ _ _ _ _ _ _ _ _ _ _ _ _ _ hf3))] hQ
 refine mI 2 [(4,fl HG s.ops)] h (fun (known,fits)=>⟨[(3,.ptr 1 0),(4,iP 0),(5,.ptr 2 0),(6,.ptr 3 0),(7,.fn 65 [.ptr 1 0]),(17,bP known),(18,bP fits)],[[hO s.ops,.vmp (N3 s.names)],[iP e.Op,iP e.N,tP e.S,hX e.Kids,iP e.At],[iP 0,tP ⟨#[]⟩,.sl [] .own,iP 0,.fno (LB Do.nil) (Kt Do.nil) (KE Do.nil)],[iP 0,iP 0]]⟩) ?_ fun y3 e4 h hJ3=>?_
 rintro⟨known,fits⟩ h
 refine mE 1 [] h (fun v160=>⟨[(3,.ptr 1 0),(4,iP 0),(5,.ptr 2 0),(6,.ptr 3 0),(7,.fn 65 [.ptr 1 0]),(18,bP fits),(160,bP v160)],[[hO s.ops,.vmp (N3 s.names)],[iP e.Op,iP e.N,tP e.S,hX e.Kids,iP e.At],[iP 0,tP ⟨#[]⟩,.sl [] .own,iP 0,.fno (LB Do.nil) (Kt Do.nil) (KE Do.nil)],[iP 0,iP 0]]⟩) ?_ fun y4 e5 hJ4=>?_
 rintro v160 h
 refine cD 0 [] h (fun hc5 h=>?_) fun hc5 h=>?_
 obtain⟨f4,hf4,h⟩:=Ae h
 cases h
 exact rt 1 [(1,fs (Bs _ _ _ _ _ _ _ _ _ _ _ _ _ _ _ _ hf4))] hQ
 refine mE 0 [] h (fun v173=>⟨[(4,iP 0),(5,.ptr 2 0),(6,.ptr 3 0),(7,.fn 65 [.ptr 1 0]),(173,bP v173)],[[hO s.ops,.vmp (N3 s.names)],[iP e.Op,iP e.N,tP e.S,hX e.Kids,iP e.At],[iP 0,tP ⟨#[]⟩,.sl [] .own,iP 0,.fno (LB Do.nil) (Kt Do.nil) (KE Do.nil)],[iP 0,iP 0]]⟩) ?_ fun y5 e6 hJ5=>?_
 rintro v173 h
 refine cD 0 [] h (fun hc3 h=>?_) fun hc3 h=>?_
 obtain⟨f5,hf5,h⟩:=Ae h
 cases h
 exact rt 1 [(1,fs (Bs _ _ _ _ _ _ _ _ _ _ _ _ _ _ _ _ hf5))] hQ
 obtain⟨f6,hf6,h⟩:=Ae h
 cases h
 exact rt 1 [(1,fs (Bs _ _ _ _ _ _ _ _ _ _ _ _ _ _ _ _ hf6))] hQ
 rcases Am e6 with⟨hc4,e6⟩|⟨hc4,e6⟩
 exact mJ 1 [(3,fo hc4)] (hJ5 _ (oj e6))
 exact mJ 1 [(3,fo hc4)] (hJ5 _ (oj e6))
 rcases Am e5 with⟨hc6,e5⟩|⟨hc6,e5⟩
 exact mJ 1 [(3,fo hc6)] (hJ4 _ (oj e5))
 exact mJ 1 [(3,fo hc6)] (hJ4 _ (oj e5))
 refine lR 1 [] (A:=(Bool×Bool×Int)) (fun n (known1,fits1,v121)=>AN n s e types known1 fits1 v121) (fun (known1,fits1,v121)=>⟨[(3,.ptr 1 0),(4,iP 0),(5,.ptr 2 0),(6,.ptr 3 0),(7,.fn 65 [.ptr 1 0]),(9,oI types),(17,bP known1),(18,bP fits1),(119,hO s.ops),(120,iP (s.ops.length:Int)),(121,iP v121)],[[hO s.ops,.vmp (N3 s.names)],[iP e.Op,iP e.N,tP e.S,hX e.Kids,iP e.At],[iP 0,tP ⟨#[]⟩,.sl [] .own,iP 0,.fno (LB Do.nil) (Kt Do.nil) (KE Do.nil)],[iP 0,iP 0]]⟩) (false,false,0) hn e4 (fun _=>rfl) ?_
 rintro n ⟨known1,fits1,v121⟩ hn e4 ih
 replace e4:=(AN.eq_2 ..).symm.trans e4
 refine cD 1 [] e4 (fun hc12 e4=>?_) fun hc12 e4=>?_
 obtain⟨x,hx,e4⟩:=Ae e4
 refine mE 2 [(0,fi HG hx)] e4 (fun v141=>⟨[(3,.ptr 1 0),(4,iP 0),(5,.ptr 2 0),(6,.ptr 3 0),(7,.fn 65 [.ptr 1 0]),(9,oI types),(17,bP known1),(18,bP fits1),(20,.ptr 4 0),(119,hO s.ops),(120,iP (s.ops.length:Int)),(121,iP v121),(141,bP v141)],[[hO s.ops,.vmp (N3 s.names)],[iP e.Op,iP e.N,tP e.S,hX e.Kids,iP e.At],[iP 0,tP ⟨#[]⟩,.sl [] .own,iP 0,.fno (LB Do.nil) (Kt Do.nil) (KE Do.nil)],[iP 0,iP 0],[iP x.op,tP x.name,hI x.args,iP x.kind,.fno (LB x.do_) (Kt x.do_) (KE x.do_)]]⟩) ?_ fun y6 e7 hJ6=>?_
 rintro v141 e4
 refine cD 0 [] e4 (fun hc9 e4=>?_) fun hc9 e4=>?_
 exact mJ 2 [] (ih (_,_,_) e4)
 refine mE 0 [] e4 (fun fits2=>⟨[(3,.ptr 1 0),(4,iP 0),(5,.ptr 2 0),(6,.ptr 3 0),(7,.fn 65 [.ptr 1 0]),(9,oI types),(17,bP true),(18,bP fits2),(20,.ptr 4 0),(119,hO s.ops),(120,iP (s.ops.length:Int)),(121,iP v121)],[[hO s.ops,.vmp (N3 s.names)],[iP e.Op,iP e.N,tP e.S,hX e.Kids,iP e.At],[iP 0,tP ⟨#[]⟩,.sl [] .own,iP 0,.fno (LB Do.nil) (Kt Do.nil) (KE Do.nil)],[iP 0,iP 0],[iP x.op,tP x.name,hI x.args,iP x.kind,.fno (LB x.do_) (Kt x.do_) (KE x.do_)]]⟩) ?_ fun y7 e8 hJ7=>?_
 rintro fits2 e4
 obtain⟨e9,he9,e4⟩:=Ae e4
 refine cD 1 [(3,fk (Ob _ _ _ _ he9))] e4 (fun hc7 e4=>?_) fun hc7 e4=>?_
 cases e4
 cases h
 exact rt 1 [] hQ
 exact mJ 1 [] (ih (_,_,_) e4)
 rcases Am e8 with⟨hc8,e8⟩|⟨hc8,e8⟩
 exact mJ 1 [(1,fo hc8)] (hJ7 _ (oj e8))
 exact mJ 1 [(1,fo hc8),(2,fl A2 x.args),(1,fl A2 types)] (hJ7 _ (oj e8))
 rcases Am e7 with⟨hc10,e7⟩|⟨hc10,e7⟩
 exact mJ 1 [(5,fo hc10)] (hJ6 _ (oj e7))
 rcases Am e7 with⟨hc11,e7⟩|⟨hc11,e7⟩
 exact mJ 1 [(5,fo hc10),(3,fo hc11)] (hJ6 _ (oj e7))
 exact mJ 1 [(5,fo hc10),(3,fo hc11)] (hJ6 _ (oj e7))
 exact mJ 1 [] (hJ3 _ (oj e4))
 refine lR 1 [] (A:=((List Int)×Int)) (fun n (types1,v52)=>Bl n e s types1 v52) (fun (types1,v52)=>⟨[(2,.ptr 0 0),(3,.ptr 1 0),(4,iP 0),(5,.ptr 2 0),(6,.ptr 3 0),(7,.fn 65 [.ptr 1 0]),(9,oI types1),(50,hX e.Kids),(51,iP (e.Kids.length:Int)),(52,iP v52)],[[hO s.ops,.vmp (N3 s.names)],[iP e.Op,iP e.N,tP e.S,hX e.Kids,iP e.At],[iP 0,tP ⟨#[]⟩,.sl [] .own,iP 0,.fno (LB Do.nil) (Kt Do.nil) (KE Do.nil)],[iP 0,iP 0]]⟩) ([],0) hn e2 (fun _=>rfl) ?_
 rintro n ⟨types1,v52⟩ hn e2 ih1
 replace e2:=(Bl.eq_2 ..).symm.trans e2
 refine cD 1 [] e2 (fun hc17 e2=>?_) fun hc17 e2=>?_
 obtain⟨x1,hx1,e2⟩:=Ae e2
 obtain⟨f7,hf7,e2⟩:=Ae e2
 refine cD 4 [(0,fi B3 hx1),(5,fk (ih_statute_solver_find _ hn _ _ _ hf7))] e2 (fun hc16 e2=>?_) fun hc16 e2=>?_
 cases e2
 cases h
 exact rt 1 [] hQ
 obtain⟨l,hl,e2⟩:=Ae e2
 obtain⟨l1,hl1,e2⟩:=Ae e2
 exact mJ 2 [(2,fB A2 hl),(0,fa A2 hl1)] (ih1 (_,_) e2)
 exact mJ 1 [] (hJ1 _ (oj e2))
 rcases Am e1 with⟨hc19,e1⟩|⟨hc19,e1⟩
 exact mJ 1 [(3,fo hc19)] (hJ _ (oj e1))
 rcases Am e1 with⟨hc20,e1⟩|⟨hc20,e1⟩
 exact mJ 1 [(3,fo hc19),(4,fo hc20)] (hJ _ (oj e1))
 rcases Am e1 with⟨hc21,e1⟩|⟨hc21,e1⟩
 exact mJ 1 [(3,fo hc19),(4,fo hc20),(2,fo hc21),(2,fl B3 e.Kids)] (hJ _ (oj e1))
 exact mJ 1 [(3,fo hc19),(4,fo hc20),(2,fo hc21)] (hJ _ (oj e1))
theorem G8:∀ n:Nat,(∀ m,m<=n->∀ (s:AW) (e:Ag) (r:(Int×Ab×An)),A4 m s e=some r->CA Tryz.prog 40 [.agg [hO s.ops,.vmp (N3 s.names)],.agg [iP e.Op,iP e.N,tP e.S,hX e.Kids,iP e.At]] (.tup [iP r.1,.agg [iP r.2.1.op,tP r.2.1.name,hI r.2.1.args,iP r.2.1.kind,.fno (LB r.2.1.do_) (Kt r.2.1.do_) (KE r.2.1.do_)],.agg [iP r.2.2.At,iP r.2.2.E]]))
 |0=>(fun m hm s e r h=>by
  obtain rfl:m=0:=by omega
  exact absurd h (by simp [A4]))
 |n+1=>by
  have ih:=G8 n
  exact fun m hm s e r h=>by
   cases m with
   |zero=>exact absurd h (by simp [A4])
   |succ m=>exact JQ n (ih) m (by omega) s e _ h
theorem H9 (n:Nat)(s:AW)(e:Ag)(r:(Int×Ab×An))(h:A4 n s e=some r):CA Tryz.prog 40 [.agg [hO s.ops,.vmp (N3 s.names)],.agg [iP e.Op,iP e.N,tP e.S,hX e.Kids,iP e.At]] (.tup [iP r.1,.agg [iP r.2.1.op,tP r.2.1.name,hI r.2.1.args,iP r.2.1.kind,.fno (LB r.2.1.do_) (Kt r.2.1.do_) (KE r.2.1.do_)],.agg [iP r.2.2.At,iP r.2.2.E]]) :=
 (G8 n) n (à _) s e r h
end Go.Proofs.YtehfpameijkafaaGreatDoor
namespace Go.Proofs.YtehfpameijkafaaGreatDoor
open Go.RowKit Go.Q Go.Vl Go.Sp
set_option maxRecDepth 100000
set_option linter.unusedSimpArgs false
set_option maxHeartbeats 4000000
set_option linter.unusedVariables false
theorem Abs (n:Nat)(d:Do)(m:Ah)(x:List Int)(r:Int)(h:Gy n d m x=some r):CA Tryz.prog (Kt d) ([.agg [hZ m.d.Facts,iP m.d.Stored,iP m.d.Owner,iP m.known],hI x]++KE d) (iP r):=by
 unfold Gy at h
 split at h
 . exact KS m x r h
 . exact KQ m x r h
 . exact KO m x r h
 . exact KN m x r h
 . exact KM m x r h
 . exact KL m x r h
 . exact KK m x r h
 . exact KJ m x r h
 . exact KI m x r h
 . exact Kd m x r h
 . exact Kc m x r h
 . exact Kb m x r h
 . exact JT m x r h
 . exact JS m x r h
 . exact JR m x r h
 . exact Ka n _ m x r h
 . exact Iz m x r h
 . exact Iy m x r h
 . exact Ix m x r h
 . exact Iw m x r h
 . exact Iv m x r h
 . exact Iu m x r h
 . cases h
theorem YZ {n:Nat}{d:Do}{m:Ah}{x:List Int}{r:Int}(h:Gy n d m x=some r):Jk Tryz.prog (Kt d)=true:=by
 unfold Gy at h
 split at h
 . exact (by kernel_rfl)
 . exact (by kernel_rfl)
 . exact (by kernel_rfl)
 . exact (by kernel_rfl)
 . exact (by kernel_rfl)
 . exact (by kernel_rfl)
 . exact (by kernel_rfl)
 . exact (by kernel_rfl)
 . exact (by kernel_rfl)
 . exact (by kernel_rfl)
 . exact (by kernel_rfl)
 . exact (by kernel_rfl)
 . exact (by kernel_rfl)
 . exact (by kernel_rfl)
 . exact (by kernel_rfl)
 . exact (by kernel_rfl)
 . exact (by kernel_rfl)
 . exact (by kernel_rfl)
 . exact (by kernel_rfl)
 . exact (by kernel_rfl)
 . exact (by kernel_rfl)
 . exact (by kernel_rfl)
 . cases h
theorem J2 (n0:Nat)
 (ih_statute_solver_value:∀ m,m<=n0->∀ (s:AW) (e:Ag) (m_:Ah) (r:Int),AA m s e m_=some r->CA Tryz.prog 42 [.agg [hO s.ops,.vmp (N3 s.names)],.agg [iP e.Op,iP e.N,tP e.S,hX e.Kids,iP e.At],.agg [hZ m_.d.Facts,iP m_.d.Stored,iP m_.d.Owner,iP m_.known]] (iP r))
 (n:Nat) (hn:n<=n0) (s:AW) (e:Ag) (m_:Ah) (r:Int) (h:AA (n+1) s e m_=some r):CA Tryz.prog 42 [.agg [hO s.ops,.vmp (N3 s.names)],.agg [iP e.Op,iP e.N,tP e.S,hX e.Kids,iP e.At],.agg [hZ m_.d.Facts,iP m_.d.Stored,iP m_.d.Owner,iP m_.known]] (iP r):=by
 replace h:=(AA.eq_2 ..).symm.trans h
 refine vP ⟨[0,1,2,3,4,5,6,7,9,11,14,15,19,33,34,35,36],[]⟩ Tryz.func42 follows fun Q hQ=>?_
 refine cD 4 [] h (fun hc2 h=>?_) fun hc2 h=>?_
 cases h
 exact rt 1 [] hQ
 refine cD 1 [] h (fun hc1 h=>?_) fun hc1 h=>?_
 cases h
 exact rt 1 [(14,fLS [(⟨#[121,101,97,114]⟩,365),(⟨#[115,116,111,114,101,100]⟩,m_.d.Stored),(⟨#[110,101,118,101,114]⟩,41667),(⟨#[111,119,110,101,114]⟩,m_.d.Owner)] e.S)] hQ
 refine mE 2 [(3,fl B3 e.Kids)] h (fun x=>⟨[(3,.ptr 0 0),(4,.ptr 1 0),(5,.ptr 2 0),(6,iP 0),(7,oI x)],[[hO s.ops,.vmp (N3 s.names)],[iP e.Op,iP e.N,tP e.S,hX e.Kids,iP e.At],[hZ m_.d.Facts,iP m_.d.Stored,iP m_.d.Owner,iP m_.known]]⟩) ?_ fun y e1 hJ=>?_
 rintro x h
 obtain⟨f,hf,h⟩:=Ae h
 obtain⟨d,hd,h⟩:=Ae h
 obtain⟨r1,hr1,h⟩:=Ae h
 cases h
 exact rt 2 [(2,fk (H9 _ _ _ _ hf)),(10,ff hd),(2,fv (YZ hr1) (Abs _ _ _ _ _ hr1))] hQ
 refine lR 1 [] (A:=((List Int)×Int)) (fun n (x1,v35)=>AQ n e s m_ x1 v35) (fun (x1,v35)=>⟨[(3,.ptr 0 0),(4,.ptr 1 0),(5,.ptr 2 0),(6,iP 0),(7,oI x1),(33,hX e.Kids),(34,iP (e.Kids.length:Int)),(35,iP v35)],[[hO s.ops,.vmp (N3 s.names)],[iP e.Op,iP e.N,tP e.S,hX e.Kids,iP e.At],[hZ m_.d.Facts,iP m_.d.Stored,iP m_.d.Owner,iP m_.known]]⟩) ([],0) hn e1 (fun _=>rfl) ?_
 rintro n ⟨x1,v35⟩ hn e1 ih
 replace e1:=(AQ.eq_2 ..).symm.trans e1
 refine cD 1 [] e1 (fun hc e1=>?_) fun hc e1=>?_
 obtain⟨x2,hx2,e1⟩:=Ae e1
 obtain⟨v_,hv_,e1⟩:=Ae e1
 obtain⟨l,hl,e1⟩:=Ae e1
 obtain⟨l1,hl1,e1⟩:=Ae e1
 exact mJ 4 [(0,fi B3 hx2),(7,fk (ih_statute_solver_value _ hn _ _ _ _ hv_)),(0,fB A2 hl),(0,fa A2 hl1)] (ih (_,_) e1)
 exact mJ 1 [] (hJ _ (oj e1))
theorem Gi:∀ n:Nat,(∀ m,m<=n->∀ (s:AW) (e:Ag) (m_:Ah) (r:Int),AA m s e m_=some r->CA Tryz.prog 42 [.agg [hO s.ops,.vmp (N3 s.names)],.agg [iP e.Op,iP e.N,tP e.S,hX e.Kids,iP e.At],.agg [hZ m_.d.Facts,iP m_.d.Stored,iP m_.d.Owner,iP m_.known]] (iP r))
 |0=>(fun m hm s e m_ r h=>by
  obtain rfl:m=0:=by omega
  exact absurd h (by simp [AA]))
 |n+1=>by
  have ih:=Gi n
  exact fun m hm s e m_ r h=>by
   cases m with
   |zero=>exact absurd h (by simp [AA])
   |succ m=>exact J2 n (ih) m (by omega) s e m_ _ h
theorem KH (n:Nat)(s:AW)(e:Ag)(m_:Ah)(r:Int)(h:AA n s e m_=some r):CA Tryz.prog 42 [.agg [hO s.ops,.vmp (N3 s.names)],.agg [iP e.Op,iP e.N,tP e.S,hX e.Kids,iP e.At],.agg [hZ m_.d.Facts,iP m_.d.Stored,iP m_.d.Owner,iP m_.known]] (iP r) :=
 (Gi n) n (à _) s e m_ r h
end Go.Proofs.YtehfpameijkafaaGreatDoor
namespace Go.Proofs.YtehfpameijkafaaGreatDoor
open Go.RowKit Go.Q Go.Vl Go.Sp
theorem C3 (e:Ag)(r:Int×Ab×An)(h:Jg e=some r):CA Tryz.prog 40 [.agg [Bj,Dk],.agg [iP e.Op,iP e.N,tP e.S,hP e.Kids Bf,iP e.At]] (.tup [iP r.1,.agg [iP r.2.1.op,tP r.2.1.name,hP r.2.1.args BJ,iP r.2.1.kind,.fno (LB r.2.1.do_) (Kt r.2.1.do_) (KE r.2.1.do_)],.agg [iP r.2.2.At,iP r.2.2.E]]):=by
 intro σ
 unfold Jg at h
 split at h
 . rename_i hs
   rw [<- Af h]
   refine VC.dis fun i=>?_
   obtain⟨n,hn⟩:=(T6 (Si i) e hs).get
   exact H9 n ⟨opsOf (Sj i),CJ⟩ e _ hn σ
 . cases h
theorem Ui (e:Ag)(m:Ah)(r:Int)(h:VR e m=some r):CA Tryz.prog 42 [.agg [Bj,Dk],.agg [iP e.Op,iP e.N,tP e.S,hP e.Kids Bf,iP e.At],.agg [hP m.d.Facts CO,iP m.d.Stored,iP m.d.Owner,iP m.known]] (iP r):=by
 intro σ
 unfold VR at h
 split at h
 . rename_i hs
   rw [<- Af h]
   refine VC.dis fun i=>?_
   obtain⟨n,hn⟩:=(PR (Si i) m (Ts hs.2.2) e hs.1 hs.2.1).1.get
   exact KH n ⟨opsOf (Sj i),CJ⟩ e m _ hn σ
 . cases h
end Go.Proofs.YtehfpameijkafaaGreatDoor
namespace Go.Proofs.YtehfpameijkafaaGreatDoor
open Go.RowKit Go.Q Go.Vl Go.Sp
set_option maxRecDepth 100000
set_option linter.unusedSimpArgs false
set_option maxHeartbeats 4000000
set_option linter.unusedVariables false
theorem Lf (n:Nat)(d:Aj)(known:Int)(r:Int)(h:Fe n d known=some r):CA Tryz.prog 41 [.agg [hZ d.Facts,iP d.Stored,iP d.Owner],iP known] (iP r):=by
 unfold Fe at h
 refine vP ⟨[0,1,2,4,6,10,12,13,14,15,55,82],[]⟩ Tryz.func41 follows fun Q hQ=>?_
 refine cD 2 [(4,fl B2 d.Facts)] h (fun hc15 h=>?_) fun hc15 h=>?_
 cases h
 exact rt 1 [] hQ
 refine mI 1 [(2,fl B2 d.Facts)] h (fun _=>⟨[(1,iP known),(2,.ptr 0 0),(4,iP 0)],[[hZ d.Facts,iP d.Stored,iP d.Owner]]⟩) ?_ fun y e h hJ=>?_
 rintro _ h
 refine mE 0 [] h (fun v82=>⟨[(4,iP 0),(82,bP v82)],[[hZ d.Facts,iP d.Stored,iP d.Owner]]⟩) ?_ fun y1 e1 hJ1=>?_
 rintro v82 h
 refine cD 0 [] h (fun hc h=>?_) fun hc h=>?_
 cases h
 exact rt 1 [] hQ
 cases h
 exact rt 1 [] hQ
 rcases Am e1 with⟨hc1,e1⟩|⟨hc1,e1⟩
 exact mJ 1 [(3,fo hc1)] (hJ1 _ (oj e1))
 rcases Am e1 with⟨hc2,e1⟩|⟨hc2,e1⟩
 exact mJ 1 [(3,fo hc1),(4,fo hc2)] (hJ1 _ (oj e1))
 rcases Am e1 with⟨hc3,e1⟩|⟨hc3,e1⟩
 exact mJ 1 [(3,fo hc1),(4,fo hc2),(3,fo hc3)] (hJ1 _ (oj e1))
 rcases Am e1 with⟨hc4,e1⟩|⟨hc4,e1⟩
 exact mJ 1 [(3,fo hc1),(4,fo hc2),(3,fo hc3),(3,fo hc4)] (hJ1 _ (oj e1))
 rcases Am e1 with⟨hc5,e1⟩|⟨hc5,e1⟩
 exact mJ 1 [(3,fo hc1),(4,fo hc2),(3,fo hc3),(3,fo hc4),(4,fo hc5)] (hJ1 _ (oj e1))
 exact mJ 1 [(3,fo hc1),(4,fo hc2),(3,fo hc3),(3,fo hc4),(4,fo hc5)] (hJ1 _ (oj e1))
 refine lF 1 [] (A:=Int) (fun n v14=>BL n d v14) (fun v14=>⟨[(1,iP known),(2,.ptr 0 0),(4,iP 0),(12,hZ d.Facts),(13,iP (d.Facts.length:Int)),(14,iP v14)],[[hZ d.Facts,iP d.Stored,iP d.Owner]]⟩) 0 e (fun _=>rfl) ?_
 rintro n v14 e ih
 replace e:=(BL.eq_2 ..).symm.trans e
 refine cD 1 [] e (fun hc14 e=>?_) fun hc14 e=>?_
 obtain⟨x,hx,e⟩:=Ae e
 refine mE 2 [(0,fi B2 hx)] e (fun v55=>⟨[(1,iP known),(2,.ptr 0 0),(4,iP 0),(12,hZ d.Facts),(13,iP (d.Facts.length:Int)),(14,iP v14),(55,bP v55)],[[hZ d.Facts,iP d.Stored,iP d.Owner],[iP x.Kind,iP x.Who,iP x.Day,iP x.Known]]⟩) ?_ fun y2 e2 hJ2=>?_
 rintro v55 e
 refine cD 0 [] e (fun hc6 e=>?_) fun hc6 e=>?_
 cases e
 cases h
 exact rt 1 [] hQ
 exact mJ 1 [] (ih _ e)
 rcases Am e2 with⟨hc7,e2⟩|⟨hc7,e2⟩
 exact mJ 1 [(3,fo hc7)] (hJ2 _ (oj e2))
 rcases Am e2 with⟨hc8,e2⟩|⟨hc8,e2⟩
 exact mJ 1 [(3,fo hc7),(4,fo hc8)] (hJ2 _ (oj e2))
 rcases Am e2 with⟨hc9,e2⟩|⟨hc9,e2⟩
 exact mJ 1 [(3,fo hc7),(4,fo hc8),(4,fo hc9)] (hJ2 _ (oj e2))
 rcases Am e2 with⟨hc10,e2⟩|⟨hc10,e2⟩
 exact mJ 1 [(3,fo hc7),(4,fo hc8),(4,fo hc9),(4,fo hc10)] (hJ2 _ (oj e2))
 rcases Am e2 with⟨hc11,e2⟩|⟨hc11,e2⟩
 exact mJ 1 [(3,fo hc7),(4,fo hc8),(4,fo hc9),(4,fo hc10),(4,fo hc11)] (hJ2 _ (oj e2))
 rcases Am e2 with⟨hc12,e2⟩|⟨hc12,e2⟩
 exact mJ 1 [(3,fo hc7),(4,fo hc8),(4,fo hc9),(4,fo hc10),(4,fo hc11),(4,fo hc12)] (hJ2 _ (oj e2))
 rcases Am e2 with⟨hc13,e2⟩|⟨hc13,e2⟩
 exact mJ 1 [(3,fo hc7),(4,fo hc8),(4,fo hc9),(4,fo hc10),(4,fo hc11),(4,fo hc12),(4,fo hc13)] (hJ2 _ (oj e2))
 exact mJ 1 [(3,fo hc7),(4,fo hc8),(4,fo hc9),(4,fo hc10),(4,fo hc11),(4,fo hc12),(4,fo hc13)] (hJ2 _ (oj e2))
 exact mJ 1 [] (hJ _ (oj e))
theorem Nj (c:Int)(r:Bool)(h:D7 c=some r):CA Tryz.prog 63 [uP c] (bP r):=by
 unfold D7 at h
 refine vP ⟨[0,2],[]⟩ Tryz.func63 follows fun Q hQ=>?_
 refine mE 1 [] h (fun v2=>⟨[(2,bP v2)],[]⟩) ?_ fun y e hJ=>?_
 rintro v2 h
 cases h
 exact rt 0 [] hQ
 rcases Am e with⟨hc,e⟩|⟨hc,e⟩
 rcases Am e with⟨hc1,e⟩|⟨hc1,e⟩
 exact mJ 1 [(2,fo hc),(3,fo hc1)] (hJ _ (oj e))
 rcases Am e with⟨hc2,e⟩|⟨hc2,e⟩
 rcases Am e with⟨hc3,e⟩|⟨hc3,e⟩
 exact mJ 1 [(2,fo hc),(3,fo hc1),(2,fo hc2),(4,fo hc3)] (hJ _ (oj e))
 rcases Am e with⟨hc4,e⟩|⟨hc4,e⟩
 exact mJ 1 [(2,fo hc),(3,fo hc1),(2,fo hc2),(4,fo hc3),(3,fo hc4)] (hJ _ (oj e))
 rcases Am e with⟨hc5,e⟩|⟨hc5,e⟩
 exact mJ 1 [(2,fo hc),(3,fo hc1),(2,fo hc2),(4,fo hc3),(3,fo hc4),(2,fo hc5)] (hJ _ (oj e))
 exact mJ 1 [(2,fo hc),(3,fo hc1),(2,fo hc2),(4,fo hc3),(3,fo hc4),(2,fo hc5)] (hJ _ (oj e))
 rcases Am e with⟨hc6,e⟩|⟨hc6,e⟩
 exact mJ 1 [(2,fo hc),(3,fo hc1),(2,fo hc2),(8,fo hc6)] (hJ _ (oj e))
 rcases Am e with⟨hc7,e⟩|⟨hc7,e⟩
 exact mJ 1 [(2,fo hc),(3,fo hc1),(2,fo hc2),(8,fo hc6),(2,fo hc7)] (hJ _ (oj e))
 exact mJ 1 [(2,fo hc),(3,fo hc1),(2,fo hc2),(8,fo hc6),(2,fo hc7)] (hJ _ (oj e))
 rcases Am e with⟨hc8,e⟩|⟨hc8,e⟩
 rcases Am e with⟨hc9,e⟩|⟨hc9,e⟩
 exact mJ 1 [(2,fo hc),(6,fo hc8),(4,fo hc9)] (hJ _ (oj e))
 rcases Am e with⟨hc10,e⟩|⟨hc10,e⟩
 exact mJ 1 [(2,fo hc),(6,fo hc8),(4,fo hc9),(3,fo hc10)] (hJ _ (oj e))
 rcases Am e with⟨hc11,e⟩|⟨hc11,e⟩
 exact mJ 1 [(2,fo hc),(6,fo hc8),(4,fo hc9),(3,fo hc10),(2,fo hc11)] (hJ _ (oj e))
 exact mJ 1 [(2,fo hc),(6,fo hc8),(4,fo hc9),(3,fo hc10),(2,fo hc11)] (hJ _ (oj e))
 rcases Am e with⟨hc12,e⟩|⟨hc12,e⟩
 exact mJ 1 [(2,fo hc),(6,fo hc8),(8,fo hc12)] (hJ _ (oj e))
 rcases Am e with⟨hc13,e⟩|⟨hc13,e⟩
 exact mJ 1 [(2,fo hc),(6,fo hc8),(8,fo hc12),(2,fo hc13)] (hJ _ (oj e))
 exact mJ 1 [(2,fo hc),(6,fo hc8),(8,fo hc12),(2,fo hc13)] (hJ _ (oj e))
theorem Jm (n:Nat)(s:(List Int))(r:Int)(h:De n s=some r):CA Tryz.prog 111 [hP s Ju,.fno true 63 []] (iP r):=by
 unfold De at h
 refine vP ⟨[0,1,4,5,7,8,9,16],[]⟩ Tryz.func111 follows fun Q hQ=>?_
 refine mI 2 [(2,fl OQ s)] h (fun _=>⟨[(4,iP 0)],[]⟩) ?_ fun y e h hJ=>?_
 rintro _ h
 cases h
 exact rt 1 [] hQ
 refine lF 1 [] (A:=Int) (fun n v8=>AK n s v8) (fun v8=>⟨[(0,hP s Ju),(1,.fno true 63 []),(4,iP 0),(7,iP (s.length:Int)),(8,iP v8)],[]⟩) 0 e (fun _=>rfl) ?_
 rintro n v8 e ih
 replace e:=(AK.eq_2 ..).symm.trans e
 refine cD 1 [] e (fun hc1 e=>?_) fun hc1 e=>?_
 obtain⟨x,hx,e⟩:=Ae e
 obtain⟨i,hi,e⟩:=Ae e
 refine cD 3 [(5,fi OQ hx),(1,fk (Nj _ _ hi))] e (fun hc e=>?_) fun hc e=>?_
 cases e
 cases h
 exact rt 1 [] hQ
 exact mJ 1 [] (ih _ e)
 exact mJ 1 [] (hJ _ (oj e))
theorem I1 (n:Nat)(s:(List Int))(r:Bool)(h:Ce n s=some r):CA Tryz.prog 62 [hP s Ju,.fno true 63 []] (bP r):=by
 unfold Ce at h
 refine vP ⟨[0,1,4],[]⟩ Tryz.func62 follows fun Q hQ=>?_
 obtain⟨i,hi,h⟩:=Ae h
 cases h
 exact rt 2 [(3,fk (Jm _ _ _ hi))] hQ
theorem Pr (n:Nat)(s:Æ)(r:Bool)(h:E5 n s=some r):CA Tryz.prog 36 [tP s] (bP r):=by
 unfold E5 at h
 refine vP ⟨[0,2,19],[(3,[9996,1])]⟩ Tryz.func36 follows fun Q hQ=>?_
 refine mE 1 [] h (fun v19=>⟨[(0,tP s),(2,bP false),(19,bP v19)],[]⟩) ?_ fun y e hJ=>?_
 rintro v19 h
 refine cD 0 [] h (fun hc1 h=>?_) fun hc1 h=>?_
 cases h
 exact rt 1 [] hQ
 obtain⟨b,hb,h⟩:=Ae h
 obtain⟨c,hc,h⟩:=Ae h
 refine xV 1 [.no] (hP b Ju) [.call (bP c),.no,.no] ⟨[(2,bP (!c))],[]⟩ (And.intro True.intro (And.intro (Aec hb (fun _=>rfl)) (And.intro (I1 n b c hc) True.intro))) ?_
 cases h
 exact rt 0 [] hQ
 rcases Am e with⟨hc2,e⟩|⟨hc2,e⟩
 exact mJ 1 [(2,fo hc2)] (hJ _ (oj e))
 rcases Am e with⟨hc3,e⟩|⟨hc3,e⟩
 exact mJ 1 [(2,fo hc2),(4,fo hc3)] (hJ _ (oj e))
 obtain⟨c1,hc11,e⟩:=Ae e
 rcases Am e with⟨hc4,e⟩|⟨hc4,e⟩
 exact mJ 1 [(2,fo hc2),(4,fo hc3),(1,fb hc11),(1,fo hc4),(1,fb hc11)] (hJ _ (oj e))
 exact mJ 1 [(2,fo hc2),(4,fo hc3),(1,fb hc11),(1,fo hc4)] (hJ _ (oj e))
theorem Ml (c:Æ)(c1:Int)(c2:Int)(c3:Int)(c4:Int)(c5:Int)(c6:Æ)(c7:(List Ag))(c8:Int)(c9:Int)(c10:Int)(c11:Æ)(c12:(List Ag))(c13:Int)(c14:Int)(c15:Int)(c16:Æ)(c17:(List Ag))(c18:Int)(c19:Int)(x:Aa)(r:Bool)(h:DC c c1 c2 c3 c4 c5 c6 c7 c8 c9 c10 c11 c12 c13 c14 c15 c16 c17 c18 c19 x=some r):J1 Tryz.prog 38 [.agg [tP x.Name,iP x.Kind,iP x.Rank,iP x.Known,iP x.From.Op,iP x.From.N,tP x.From.S,hX x.From.Kids,iP x.From.At,iP x.To.Op,iP x.To.N,tP x.To.S,hX x.To.Kids,iP x.To.At,iP x.When.Op,iP x.When.N,tP x.When.S,hX x.When.Kids,iP x.When.At,iP x.Houses],.ptr 1 0] [[Bj,Dk],[tP c,iP c1,iP c2,iP c3,iP c4,iP c5,tP c6,hX c7,iP c8,iP c9,iP c10,tP c11,hX c12,iP c13,iP c14,iP c15,tP c16,hX c17,iP c18,iP c19]] (.ret (bP r)) [[Bj,Dk],[tP c,iP c1,iP c2,iP c3,iP c4,iP c5,tP c6,hX c7,iP c8,iP c9,iP c10,tP c11,hX c12,iP c13,iP c14,iP c15,tP c16,hX c17,iP c18,iP c19]]:=by
 unfold DC at h
 refine vS ⟨[0,1,2,3],[]⟩ Tryz.func38 follows fun Q hQ=>?_
 cases h
 exact rt 2 [] hQ
theorem I0 (n:Nat)(c:Æ)(c1:Int)(c2:Int)(c3:Int)(c4:Int)(c5:Int)(c6:Æ)(c7:(List Ag))(c8:Int)(c9:Int)(c10:Int)(c11:Æ)(c12:(List Ag))(c13:Int)(c14:Int)(c15:Int)(c16:Æ)(c17:(List Ag))(c18:Int)(c19:Int)(s:(List Aa))(r:Int)(h:CC n c c1 c2 c3 c4 c5 c6 c7 c8 c9 c10 c11 c12 c13 c14 c15 c16 c17 c18 c19 s=some r):J1 Tryz.prog 64 [hC s,.fn 38 [.ptr 1 0]] [[Bj,Dk],[tP c,iP c1,iP c2,iP c3,iP c4,iP c5,tP c6,hX c7,iP c8,iP c9,iP c10,tP c11,hX c12,iP c13,iP c14,iP c15,tP c16,hX c17,iP c18,iP c19]] (.ret (iP r)) [[Bj,Dk],[tP c,iP c1,iP c2,iP c3,iP c4,iP c5,tP c6,hX c7,iP c8,iP c9,iP c10,tP c11,hX c12,iP c13,iP c14,iP c15,tP c16,hX c17,iP c18,iP c19]]:=by
 unfold CC at h
 refine vS ⟨[0,1,4,5,7,8,9,16],[]⟩ Tryz.func64 follows fun Q hQ=>?_
 refine mI 2 [(2,fl A7 s)] h (fun _=>⟨[(4,iP 0)],[[Bj,Dk],[tP c,iP c1,iP c2,iP c3,iP c4,iP c5,tP c6,hX c7,iP c8,iP c9,iP c10,tP c11,hX c12,iP c13,iP c14,iP c15,tP c16,hX c17,iP c18,iP c19]]⟩) ?_ fun y e h hJ=>?_
 rintro _ h
 cases h
 exact rt 1 [] hQ
 refine lF 1 [] (A:=Int) (fun n v8=>AF n s c c1 c2 c3 c4 c5 c6 c7 c8 c9 c10 c11 c12 c13 c14 c15 c16 c17 c18 c19 v8) (fun v8=>⟨[(0,hC s),(1,.fn 38 [.ptr 1 0]),(4,iP 0),(7,iP (s.length:Int)),(8,iP v8)],[[Bj,Dk],[tP c,iP c1,iP c2,iP c3,iP c4,iP c5,tP c6,hX c7,iP c8,iP c9,iP c10,tP c11,hX c12,iP c13,iP c14,iP c15,tP c16,hX c17,iP c18,iP c19]]⟩) 0 e (fun _=>rfl) ?_
 rintro n v8 e ih
 replace e:=(AF.eq_2 ..).symm.trans e
 refine cD 1 [] e (fun hc1 e=>?_) fun hc1 e=>?_
 obtain⟨x,hx,e⟩:=Ae e
 obtain⟨c20,hc20,e⟩:=Ae e
 refine cD 3 [(5,fi A7 hx),(1,fs (Ml _ _ _ _ _ _ _ _ _ _ _ _ _ _ _ _ _ _ _ _ _ _ hc20))] e (fun hc e=>?_) fun hc e=>?_
 cases e
 cases h
 exact rt 1 [] hQ
 exact mJ 1 [] (ih _ e)
 exact mJ 1 [] (hJ _ (oj e))
theorem HA (n:Nat)(c:Æ)(c1:Int)(c2:Int)(c3:Int)(c4:Int)(c5:Int)(c6:Æ)(c7:(List Ag))(c8:Int)(c9:Int)(c10:Int)(c11:Æ)(c12:(List Ag))(c13:Int)(c14:Int)(c15:Int)(c16:Æ)(c17:(List Ag))(c18:Int)(c19:Int)(s:(List Aa))(r:Bool)(h:Bu n c c1 c2 c3 c4 c5 c6 c7 c8 c9 c10 c11 c12 c13 c14 c15 c16 c17 c18 c19 s=some r):J1 Tryz.prog 37 [hC s,.fn 38 [.ptr 1 0]] [[Bj,Dk],[tP c,iP c1,iP c2,iP c3,iP c4,iP c5,tP c6,hX c7,iP c8,iP c9,iP c10,tP c11,hX c12,iP c13,iP c14,iP c15,tP c16,hX c17,iP c18,iP c19]] (.ret (bP r)) [[Bj,Dk],[tP c,iP c1,iP c2,iP c3,iP c4,iP c5,tP c6,hX c7,iP c8,iP c9,iP c10,tP c11,hX c12,iP c13,iP c14,iP c15,tP c16,hX c17,iP c18,iP c19]]:=by
 unfold Bu at h
 refine vS ⟨[0,1,4],[]⟩ Tryz.func37 follows fun Q hQ=>?_
 obtain⟨c20,hc20,h⟩:=Ae h
 cases h
 exact rt 2 [(3,fs (I0 _ _ _ _ _ _ _ _ _ _ _ _ _ _ _ _ _ _ _ _ _ _ _ hc20))] hQ
theorem Nh (c:Æ)(c1:Int)(c2:Int)(c3:Int)(c4:Int)(c5:Int)(c6:Æ)(c7:(List Ag))(c8:Int)(c9:Int)(c10:Int)(c11:Æ)(c12:(List Ag))(c13:Int)(c14:Int)(c15:Int)(c16:Æ)(c17:(List Ag))(c18:Int)(c19:Int)(r:Unit)(h:E3 c c1 c2 c3 c4 c5 c6 c7 c8 c9 c10 c11 c12 c13 c14 c15 c16 c17 c18 c19=some r):J1 Tryz.prog 39 [.ptr 1 0] [[Bj,Dk],[tP c,iP c1,iP c2,iP c3,iP c4,iP c5,tP c6,hX c7,iP c8,iP c9,iP c10,tP c11,hX c12,iP c13,iP c14,iP c15,tP c16,hX c17,iP c18,iP c19]] (.ret (.tup [.agg [.ptr 1 4,.ptr 1 9,.ptr 1 14],.agg [iP 2,iP 2,iP 3]])) [[Bj,Dk],[tP c,iP c1,iP c2,iP c3,iP c4,iP c5,tP c6,hX c7,iP c8,iP c9,iP c10,tP c11,hX c12,iP c13,iP c14,iP c15,tP c16,hX c17,iP c18,iP c19]]:=by
 unfold E3 at h
 refine vS ⟨[0,2,3],[(1,[9999,0,0,1,2,3,4,5,6,7,8,9,10,11,12])]⟩ Tryz.func39 follows fun Q hQ=>?_
 cases h
 exact rt 2 [] hQ
theorem Lg (n:Nat)(l:(List Aa))(r:Int)(h:Ff n l=some r):CA Tryz.prog 20 [hC l] (iP r):=by
 unfold Ff at h
 refine vP ⟨[0,2,3,4,5,6,7,8,9,10,11,13,16,18,19,20,21,28,33,39,48,93,94,95,109,116],[(20,[9995])]⟩ Tryz.func20 follows fun Q hQ=>?_
 refine cD 2 [(2,fl A7 l)] h (fun hc27 h=>?_) fun hc27 h=>?_
 cases h
 exact rt 1 [] hQ
 obtain⟨u,hu,h⟩:=Ae h
 refine mI 2 [(0,fk PQ),(3,fl A7 l)] h (fun _=>⟨[(2,iP 0)],[[Bj,Dk]]⟩) ?_ fun y e h hJ=>?_
 rintro _ h
 cases h
 exact rt 1 [] hQ
 refine lF 1 [] (A:=Int) (fun n v20=>Cz n l v20) (fun v20=>⟨[(0,hC l),(2,iP 0),(3,.ptr 0 0),(18,hC l),(19,iP (l.length:Int)),(20,iP v20)],[[Bj,Dk]]⟩) 0 e (fun _=>rfl) ?_
 rintro n v20 e ih
 replace e:=(Cz.eq_2 ..).symm.trans e
 refine cD 1 [] e (fun hc26 e=>?_) fun hc26 e=>?_
 obtain⟨x,hx,e⟩:=Ae e
 obtain⟨i,hi,e⟩:=Ae e
 refine cD 5 [(1,fi A7 hx),(10,fk (Pr _ _ _ hi))] e (fun hc25 e=>?_) fun hc25 e=>?_
 cases e
 cases h
 exact rt 1 [] hQ
 obtain⟨l1,hl1,e⟩:=Ae e
 obtain⟨c,hc,e⟩:=Ae e
 refine cD 1 [(2,fsl A7 hl1),(1,fs (HA _ _ _ _ _ _ _ _ _ _ _ _ _ _ _ _ _ _ _ _ _ _ _ hc))] e (fun hc24 e=>?_) fun hc24 e=>?_
 cases e
 cases h
 exact rt 1 [] hQ
 refine mE 0 [] e (fun v39=>⟨[(0,hC l),(2,iP 0),(3,.ptr 0 0),(5,.ptr 1 0),(6,bP (x.Kind == 3)),(18,hC l),(19,iP (l.length:Int)),(20,iP v20),(39,bP v39)],[[Bj,Dk],[tP x.Name,iP x.Kind,iP x.Rank,iP x.Known,iP x.From.Op,iP x.From.N,tP x.From.S,hX x.From.Kids,iP x.From.At,iP x.To.Op,iP x.To.N,tP x.To.S,hX x.To.Kids,iP x.To.At,iP x.When.Op,iP x.When.N,tP x.When.S,hX x.When.Kids,iP x.When.At,iP x.Houses]]⟩) ?_ fun y1 e1 hJ1=>?_
 rintro v39 e
 refine cD 0 [] e (fun hc22 e=>?_) fun hc22 e=>?_
 cases e
 cases h
 exact rt 1 [] hQ
 refine mE 0 [] e (fun v48=>⟨[(0,hC l),(2,iP 0),(3,.ptr 0 0),(5,.ptr 1 0),(18,hC l),(19,iP (l.length:Int)),(20,iP v20),(48,bP v48)],[[Bj,Dk],[tP x.Name,iP x.Kind,iP x.Rank,iP x.Known,iP x.From.Op,iP x.From.N,tP x.From.S,hX x.From.Kids,iP x.From.At,iP x.To.Op,iP x.To.N,tP x.To.S,hX x.To.Kids,iP x.To.At,iP x.When.Op,iP x.When.N,tP x.When.S,hX x.When.Kids,iP x.When.At,iP x.Houses]]⟩) ?_ fun y2 e2 hJ2=>?_
 rintro v48 e
 refine cD 0 [] e (fun hc11 e=>?_) fun hc11 e=>?_
 cases e
 cases h
 exact rt 1 [] hQ
 obtain⟨w,hw,e⟩:=Ae e
 refine mI 2 [(0,fs (Nh _ _ _ _ _ _ _ _ _ _ _ _ _ _ _ _ _ _ _ _ _ hw))] e (fun _=>⟨[(0,hC l),(2,iP 0),(3,.ptr 0 0),(18,hC l),(19,iP (l.length:Int)),(20,iP v20)],[[Bj,Dk],[tP x.Name,iP x.Kind,iP x.Rank,iP x.Known,iP x.From.Op,iP x.From.N,tP x.From.S,hX x.From.Kids,iP x.From.At,iP x.To.Op,iP x.To.N,tP x.To.S,hX x.To.Kids,iP x.To.At,iP x.When.Op,iP x.When.N,tP x.When.S,hX x.When.Kids,iP x.When.At,iP x.Houses],[.ptr 1 4,.ptr 1 9,.ptr 1 14],[iP 2,iP 2,iP 3]]⟩) ?_ fun y3 e3 e hJ3=>?_
 rintro _ e
 exact mJ 1 [] (ih _ e)
 refine lF 1 [] (A:=Int) (fun n v94=>A9 n x v94) (fun v94=>⟨[(0,hC l),(2,iP 0),(3,.ptr 0 0),(8,.ptr 3 0),(18,hC l),(19,iP (l.length:Int)),(20,iP v20),(93,.agg [.ptr 1 4,.ptr 1 9,.ptr 1 14]),(94,iP v94)],[[Bj,Dk],[tP x.Name,iP x.Kind,iP x.Rank,iP x.Known,iP x.From.Op,iP x.From.N,tP x.From.S,hX x.From.Kids,iP x.From.At,iP x.To.Op,iP x.To.N,tP x.To.S,hX x.To.Kids,iP x.To.At,iP x.When.Op,iP x.When.N,tP x.When.S,hX x.When.Kids,iP x.When.At,iP x.Houses],[.ptr 1 4,.ptr 1 9,.ptr 1 14],[iP 2,iP 2,iP 3]]⟩) 0 e3 (fun _=>rfl) ?_
 rintro n v94 e3 ih1
 replace e3:=(A9.eq_2 ..).symm.trans e3
 replace e3:=Am e3
 rcases e3 with⟨hc8,e3⟩|⟨hc8,e3⟩
 obtain rfl:=OH hc8
 obtain⟨f2,hf2,e3⟩:=Ae e3
 refine wl 4 [] ?_
 refine xE 6 [.no,.no,.no,.no,.call (.tup [iP f2.1,.agg [iP f2.2.1.op,tP f2.2.1.name,hI f2.2.1.args,iP f2.2.1.kind,.fno (LB f2.2.1.do_) (Kt f2.2.1.do_) (KE f2.2.1.do_)],.agg [iP f2.2.2.At,iP f2.2.2.E]]),.no,.no,.no,.no,.no,.no,.no,.no,.no] ⟨[(0,hC l),(2,iP 0),(3,.ptr 0 0),(8,.ptr 3 0),(9,iP 0),(11,iP f2.1),(13,.ptr 5 0),(18,hC l),(19,iP (l.length:Int)),(20,iP v20),(93,.agg [.ptr 1 4,.ptr 1 9,.ptr 1 14]),(94,iP 0)],[[Bj,Dk],[tP x.Name,iP x.Kind,iP x.Rank,iP x.Known,iP x.From.Op,iP x.From.N,tP x.From.S,hX x.From.Kids,iP x.From.At,iP x.To.Op,iP x.To.N,tP x.To.S,hX x.To.Kids,iP x.To.At,iP x.When.Op,iP x.When.N,tP x.When.S,hX x.When.Kids,iP x.When.At,iP x.Houses],[.ptr 1 4,.ptr 1 9,.ptr 1 14],[iP 2,iP 2,iP 3],[iP f2.2.1.op,tP f2.2.1.name,hI f2.2.1.args,iP f2.2.1.kind,.fno (LB f2.2.1.do_) (Kt f2.2.1.do_) (KE f2.2.1.do_)],[iP f2.2.2.At,iP f2.2.2.E]]⟩ (And.intro (And.intro (C3 x.From f2 hf2) (And.intro True.intro (And.intro (And.intro True.intro True.intro) True.intro))) (And.intro (And.intro (And.intro (C3 x.From f2 hf2) True.intro) (And.intro (And.intro (C3 x.From f2 hf2) True.intro) True.intro)) (And.intro (And.intro (And.intro (C3 x.From f2 hf2) (And.intro True.intro True.intro)) (And.intro (And.intro (C3 x.From f2 hf2) True.intro) True.intro)) True.intro))) ?_
 refine cD 1 [] e3 (fun hc10 e3=>?_) fun hc10 e3=>?_
 cases e3
 cases e
 cases h
 exact rt 1 [] hQ
 refine cD 1 [] e3 (fun hc9 e3=>?_) fun hc9 e3=>?_
 cases e3
 cases e
 cases h
 exact rt 1 [] hQ
 exact mJ 1 [] (ih1 _ e3)
 replace e3:=Am e3
 rcases e3 with⟨hc5,e3⟩|⟨hc5,e3⟩
 obtain rfl:=OH hc5
 obtain⟨f1,hf1,e3⟩:=Ae e3
 refine wl 4 [] ?_
 refine xE 6 [.no,.no,.no,.no,.call (.tup [iP f1.1,.agg [iP f1.2.1.op,tP f1.2.1.name,hI f1.2.1.args,iP f1.2.1.kind,.fno (LB f1.2.1.do_) (Kt f1.2.1.do_) (KE f1.2.1.do_)],.agg [iP f1.2.2.At,iP f1.2.2.E]]),.no,.no,.no,.no,.no,.no,.no,.no,.no] ⟨[(0,hC l),(2,iP 0),(3,.ptr 0 0),(8,.ptr 3 0),(9,iP 1),(11,iP f1.1),(13,.ptr 5 0),(18,hC l),(19,iP (l.length:Int)),(20,iP v20),(93,.agg [.ptr 1 4,.ptr 1 9,.ptr 1 14]),(94,iP 1)],[[Bj,Dk],[tP x.Name,iP x.Kind,iP x.Rank,iP x.Known,iP x.From.Op,iP x.From.N,tP x.From.S,hX x.From.Kids,iP x.From.At,iP x.To.Op,iP x.To.N,tP x.To.S,hX x.To.Kids,iP x.To.At,iP x.When.Op,iP x.When.N,tP x.When.S,hX x.When.Kids,iP x.When.At,iP x.Houses],[.ptr 1 4,.ptr 1 9,.ptr 1 14],[iP 2,iP 2,iP 3],[iP f1.2.1.op,tP f1.2.1.name,hI f1.2.1.args,iP f1.2.1.kind,.fno (LB f1.2.1.do_) (Kt f1.2.1.do_) (KE f1.2.1.do_)],[iP f1.2.2.At,iP f1.2.2.E]]⟩ (And.intro (And.intro (C3 x.To f1 hf1) (And.intro True.intro (And.intro (And.intro True.intro True.intro) True.intro))) (And.intro (And.intro (And.intro (C3 x.To f1 hf1) True.intro) (And.intro (And.intro (C3 x.To f1 hf1) True.intro) True.intro)) (And.intro (And.intro (And.intro (C3 x.To f1 hf1) (And.intro True.intro True.intro)) (And.intro (And.intro (C3 x.To f1 hf1) True.intro) True.intro)) True.intro))) ?_
 refine cD 1 [] e3 (fun hc7 e3=>?_) fun hc7 e3=>?_
 cases e3
 cases e
 cases h
 exact rt 1 [] hQ
 refine cD 1 [] e3 (fun hc6 e3=>?_) fun hc6 e3=>?_
 cases e3
 cases e
 cases h
 exact rt 1 [] hQ
 exact mJ 1 [] (ih1 _ e3)
 replace e3:=Am e3
 rcases e3 with⟨hc2,e3⟩|⟨hc2,e3⟩
 obtain rfl:=OH hc2
 obtain⟨f,hf,e3⟩:=Ae e3
 refine wl 4 [] ?_
 refine xE 6 [.no,.no,.no,.no,.call (.tup [iP f.1,.agg [iP f.2.1.op,tP f.2.1.name,hI f.2.1.args,iP f.2.1.kind,.fno (LB f.2.1.do_) (Kt f.2.1.do_) (KE f.2.1.do_)],.agg [iP f.2.2.At,iP f.2.2.E]]),.no,.no,.no,.no,.no,.no,.no,.no,.no] ⟨[(0,hC l),(2,iP 0),(3,.ptr 0 0),(8,.ptr 3 0),(9,iP 2),(11,iP f.1),(13,.ptr 5 0),(18,hC l),(19,iP (l.length:Int)),(20,iP v20),(93,.agg [.ptr 1 4,.ptr 1 9,.ptr 1 14]),(94,iP 2)],[[Bj,Dk],[tP x.Name,iP x.Kind,iP x.Rank,iP x.Known,iP x.From.Op,iP x.From.N,tP x.From.S,hX x.From.Kids,iP x.From.At,iP x.To.Op,iP x.To.N,tP x.To.S,hX x.To.Kids,iP x.To.At,iP x.When.Op,iP x.When.N,tP x.When.S,hX x.When.Kids,iP x.When.At,iP x.Houses],[.ptr 1 4,.ptr 1 9,.ptr 1 14],[iP 2,iP 2,iP 3],[iP f.2.1.op,tP f.2.1.name,hI f.2.1.args,iP f.2.1.kind,.fno (LB f.2.1.do_) (Kt f.2.1.do_) (KE f.2.1.do_)],[iP f.2.2.At,iP f.2.2.E]]⟩ (And.intro (And.intro (C3 x.When f hf) (And.intro True.intro (And.intro (And.intro True.intro True.intro) True.intro))) (And.intro (And.intro (And.intro (C3 x.When f hf) True.intro) (And.intro (And.intro (C3 x.When f hf) True.intro) True.intro)) (And.intro (And.intro (And.intro (C3 x.When f hf) (And.intro True.intro True.intro)) (And.intro (And.intro (C3 x.When f hf) True.intro) True.intro)) True.intro))) ?_
 refine cD 1 [] e3 (fun hc4 e3=>?_) fun hc4 e3=>?_
 cases e3
 cases e
 cases h
 exact rt 1 [] hQ
 refine cD 1 [] e3 (fun hc3 e3=>?_) fun hc3 e3=>?_
 cases e3
 cases e
 cases h
 exact rt 1 [] hQ
 exact mJ 1 [] (ih1 _ e3)
 replace e3:=Am e3
 rcases e3 with⟨hc1,e3⟩|⟨hc1,e3⟩
 obtain rfl:=OH hc1
 exact mJ 3 [] (hJ3 _ (oj e3))
 cases e3
 rcases Am e2 with⟨hc12,e2⟩|⟨hc12,e2⟩
 exact mJ 1 [(3,fo hc12)] (hJ2 _ (oj e2))
 rcases Am e2 with⟨hc13,e2⟩|⟨hc13,e2⟩
 exact mJ 1 [(3,fo hc12),(4,fo hc13)] (hJ2 _ (oj e2))
 rcases Am e2 with⟨hc14,e2⟩|⟨hc14,e2⟩
 exact mJ 1 [(3,fo hc12),(4,fo hc13),(4,fo hc14)] (hJ2 _ (oj e2))
 rcases Am e2 with⟨hc15,e2⟩|⟨hc15,e2⟩
 exact mJ 1 [(3,fo hc12),(4,fo hc13),(4,fo hc14),(4,fo hc15)] (hJ2 _ (oj e2))
 rcases Am e2 with⟨hc16,e2⟩|⟨hc16,e2⟩
 rcases Am e2 with⟨hc17,e2⟩|⟨hc17,e2⟩
 exact mJ 1 [(3,fo hc12),(4,fo hc13),(4,fo hc14),(4,fo hc15),(2,fo hc16),(5,fo hc17)] (hJ2 _ (oj e2))
 rcases Am e2 with⟨hc18,e2⟩|⟨hc18,e2⟩
 rcases Am e2 with⟨hc19,e2⟩|⟨hc19,e2⟩
 exact mJ 1 [(3,fo hc12),(4,fo hc13),(4,fo hc14),(4,fo hc15),(2,fo hc16),(5,fo hc17),(1,fo hc18),(3,fo hc19)] (hJ2 _ (oj e2))
 exact mJ 1 [(3,fo hc12),(4,fo hc13),(4,fo hc14),(4,fo hc15),(2,fo hc16),(5,fo hc17),(1,fo hc18),(3,fo hc19)] (hJ2 _ (oj e2))
 exact mJ 1 [(3,fo hc12),(4,fo hc13),(4,fo hc14),(4,fo hc15),(2,fo hc16),(5,fo hc17),(1,fo hc18)] (hJ2 _ (oj e2))
 rcases Am e2 with⟨hc20,e2⟩|⟨hc20,e2⟩
 rcases Am e2 with⟨hc21,e2⟩|⟨hc21,e2⟩
 exact mJ 1 [(3,fo hc12),(4,fo hc13),(4,fo hc14),(4,fo hc15),(2,fo hc16),(7,fo hc20),(3,fo hc21)] (hJ2 _ (oj e2))
 exact mJ 1 [(3,fo hc12),(4,fo hc13),(4,fo hc14),(4,fo hc15),(2,fo hc16),(7,fo hc20),(3,fo hc21)] (hJ2 _ (oj e2))
 exact mJ 1 [(3,fo hc12),(4,fo hc13),(4,fo hc14),(4,fo hc15),(2,fo hc16),(7,fo hc20)] (hJ2 _ (oj e2))
 rcases Am e1 with⟨hc23,e1⟩|⟨hc23,e1⟩
 exact mJ 1 [(3,fo hc23)] (hJ1 _ (oj e1))
 exact mJ 1 [(3,fo hc23)] (hJ1 _ (oj e1))
 exact mJ 1 [] (hJ _ (oj e))
theorem R6 (n:Nat)(c:Aa)(d:Aj)(known:Int)(r:(Int×Int×Bool×Int))(h:EO n c d known=some r):CA Tryz.prog 21 [.agg [tP c.Name,iP c.Kind,iP c.Rank,iP c.Known,iP c.From.Op,iP c.From.N,tP c.From.S,hX c.From.Kids,iP c.From.At,iP c.To.Op,iP c.To.N,tP c.To.S,hX c.To.Kids,iP c.To.At,iP c.When.Op,iP c.When.N,tP c.When.S,hX c.When.Kids,iP c.When.At,iP c.Houses],.agg [hZ d.Facts,iP d.Stored,iP d.Owner],iP known] (.tup [iP r.1,iP r.2.1,bP r.2.2.1,iP r.2.2.2]):=by
 unfold EO at h
 refine vP ⟨[0,1,2,3,4,6,7,8,9,10,11,12,13,18,24],[(7,[9995]),(8,[9999,0,0,1,2,3,5,6,7,8,10,11,12,13,4,9,14,15,16,17,18,19,20,21,22,23,24,25])]⟩ Tryz.func21 follows fun Q hQ=>?_
 obtain⟨l,hl,h⟩:=Ae h
 obtain⟨e,he,h⟩:=Ae h
 refine cD 3 [(7,fB A7 hl),(0,fk (Lg _ _ _ he))] h (fun hc2 h=>?_) fun hc2 h=>?_
 cases h
 exact rt 1 [] hQ
 obtain⟨e1,he1,h⟩:=Ae h
 refine cD 2 [(2,fk (Lf _ _ _ _ he1))] h (fun hc1 h=>?_) fun hc1 h=>?_
 cases h
 exact rt 1 [] hQ
 obtain⟨u,hu,h⟩:=Ae h
 refine xE 6 [.call (.agg [Bj,Dk]),.no,.no,.no,.no,.no,.no,.no] ⟨[(2,iP known),(3,.ptr 0 0),(6,iP 0),(7,iP 0),(8,bP false),(9,iP 0),(12,.ptr 2 0),(13,.ptr 3 0)],[[tP c.Name,iP c.Kind,iP c.Rank,iP c.Known,iP c.From.Op,iP c.From.N,tP c.From.S,hX c.From.Kids,iP c.From.At,iP c.To.Op,iP c.To.N,tP c.To.S,hX c.To.Kids,iP c.To.At,iP c.When.Op,iP c.When.N,tP c.When.S,hX c.When.Kids,iP c.When.At,iP c.Houses],[hZ d.Facts,iP d.Stored,iP d.Owner],[Bj,Dk],[hZ d.Facts,iP d.Stored,iP d.Owner,iP known]]⟩ (And.intro (And.intro PQ (And.intro True.intro (And.intro (And.intro True.intro True.intro) True.intro))) (And.intro (And.intro (And.intro PQ True.intro) (And.intro (And.intro PQ True.intro) True.intro)) (And.intro (And.intro (And.intro PQ (And.intro True.intro True.intro)) (And.intro (And.intro PQ True.intro) True.intro)) True.intro))) ?_
 refine mE 0 [] h (fun (from_,to_,applies)=>⟨[(6,iP from_),(7,iP to_),(8,bP applies),(9,iP 0)],[[tP c.Name,iP c.Kind,iP c.Rank,iP c.Known,iP c.From.Op,iP c.From.N,tP c.From.S,hX c.From.Kids,iP c.From.At,iP c.To.Op,iP c.To.N,tP c.To.S,hX c.To.Kids,iP c.To.At,iP c.When.Op,iP c.When.N,tP c.When.S,hX c.When.Kids,iP c.When.At,iP c.Houses],[hZ d.Facts,iP d.Stored,iP d.Owner],[Bj,Dk],[hZ d.Facts,iP d.Stored,iP d.Owner,iP known]]⟩) ?_ fun y e2 hJ=>?_
 rintro⟨from_,to_,applies⟩ h
 cases h
 exact rt 0 [] hQ
 obtain⟨from_1,hfrom_1,e2⟩:=Ae e2
 obtain⟨to_1,hto_1,e2⟩:=Ae e2
 rcases Am e2 with⟨hc,e2⟩|⟨hc,e2⟩
 obtain⟨v_,hv_,e2⟩:=Ae e2
 exact mJ 1 [(12,fk (Ui _ _ _ hfrom_1)),(0,fk (Ui _ _ _ hto_1)),(0,fo hc),(4,fk (Ui _ _ _ hv_))] (hJ _ (oj e2))
 exact mJ 1 [(12,fk (Ui _ _ _ hfrom_1)),(0,fk (Ui _ _ _ hto_1)),(0,fo hc)] (hJ _ (oj e2))
end Go.Proofs.YtehfpameijkafaaGreatDoor
namespace Go.Proofs.YtehfpameijkafaaGreatDoor
open Go.RowKit Go.Q Go.Vl Go.Sp
set_option maxRecDepth 100000
set_option linter.unusedSimpArgs false
set_option maxHeartbeats 4000000
set_option linter.unusedVariables false
theorem IY (n:Nat)(l:(List Aa))(d:Aj)(known:Int)(r:((List Ac)×Int))(h:Ch n l d known=some r):CA Tryz.prog 27 [hC l,.agg [hZ d.Facts,iP d.Stored,iP d.Owner],iP known] (.tup [L8 r.1,iP r.2]):=by
 unfold Ch at h
 refine vP ⟨[0,1,2,3,4,6,7,8,9,10,11,12,13,14,15,20,26,28,29,30,31,44],[]⟩ Tryz.func27 follows fun Q hQ=>?_
 refine xZ 1 [] ?_
 refine xZ 0 [] ?_
 obtain⟨e,he,h⟩:=Ae h
 refine cD 2 [(1,fk (Lg _ _ _ he))] h (fun hc4 h=>?_) fun hc4 h=>?_
 cases h
 exact rt 1 [] hQ
 obtain⟨e1,he1,h⟩:=Ae h
 refine cD 2 [(2,fk (Lf _ _ _ _ he1))] h (fun hc3 h=>?_) fun hc3 h=>?_
 cases h
 exact rt 1 [] hQ
 refine wl 1 [] ?_
 refine pvX (.tmp 10) ?_
 refine mE 1 [(1,fl A7 l)] h (fun out=>⟨[(3,.vptr [hC l] 0),(6,.sl [] .own),(7,iP 0),(10,.prv (out.map Ai.vals))],[]⟩) ?_ fun y e2 hJ=>?_
 rintro out h
 replace h:=Am h
 rcases h with⟨hc,h⟩|⟨hc,h⟩
 have h_:=h
 obtain rfl:=Vz hc
 have h:=h_
 clear h_
 refine poR Ai CN (.tmp 10) [] ?_
 cases h
 exact rt 2 [(2,fk (Ad0 l))] hQ
 refine thR Ai (.tmp 10) out _ rfl (JD hc) fun cap m_ _ hsz=>?_
 obtain⟨l1,hl1,h⟩:=Ae h
 refine wl 1 [(2,fs (HO _ _ _ _ cap m_ _ hl1))] ?_
 replace h:=Am h
 rcases h with⟨hl,h⟩|⟨hl,h⟩
 refine unR Ai (.tmp 10) l1 0 out.length cap m_ (HV hl) (Ou (HV hl) (JD hc)) hsz ?_
 refine poR Ai CN (.tmp 10) l1 ?_
 cases h
 exact rt 1 [] hQ
 cases h
 refine lF 1 [] (A:=((List Ac)×Int)) (fun n (out1,v30)=>BN n l d known out1 v30) (fun (out1,v30)=>⟨[(2,iP known),(3,.vptr [hC l] 0),(4,.vptr [hZ d.Facts,iP d.Stored,iP d.Owner] 0),(6,.sl [] .own),(7,iP 0),(10,.prv (out1.map Ai.vals)),(28,hC l),(29,iP (l.length:Int)),(30,iP v30)],[]⟩) ([],0) e2 (fun _=>rfl) ?_
 rintro n ⟨out1,v30⟩ e2 ih
 replace e2:=(BN.eq_2 ..).symm.trans e2
 refine cD 1 [] e2 (fun hc2 e2=>?_) fun hc2 e2=>?_
 obtain⟨x,hx,e2⟩:=Ae e2
 obtain⟨s,hs,e2⟩:=Ae e2
 refine cD 4 [(1,fi A7 hx),(7,fk (R6 _ _ _ _ _ hs))] e2 (fun hc1 e2=>?_) fun hc1 e2=>?_
 obtain⟨l2,hl2,e2⟩:=Ae e2
 exact mJ 2 [(6,fap Ai (by simp) hl2)] (ih (_,_) e2)
 exact mJ 1 [] (ih (_,_) e2)
 exact mJ 1 [] (hJ _ (oj e2))
end Go.Proofs.YtehfpameijkafaaGreatDoor
namespace Go.Proofs.YtehfpameijkafaaGreatDoor
open Go.RowKit Go.Q Go.Vl Go.Sp
set_option maxRecDepth 100000
set_option linter.unusedSimpArgs false
set_option maxHeartbeats 4000000
set_option linter.unusedVariables false
theorem GO (s:Ac)(day:Int)(r:Bool)(h:C0 s day=some r):CA Tryz.prog 51 [.agg [iP s.from_,iP s.to_,iP s.clause],iP day] (bP r):=by
 unfold C0 at h
 refine vP ⟨[0,1,2,4],[]⟩ Tryz.func51 follows fun Q hQ=>?_
 refine mE 1 [] h (fun v4=>⟨[(4,bP v4)],[[iP s.from_,iP s.to_,iP s.clause]]⟩) ?_ fun y e hJ=>?_
 rintro v4 h
 cases h
 exact rt 0 [] hQ
 rcases Am e with⟨hc,e⟩|⟨hc,e⟩
 exact mJ 1 [(4,fo hc)] (hJ _ (oj e))
 exact mJ 1 [(4,fo hc)] (hJ _ (oj e))
theorem Mn (h_:Int)(other:Int)(r:Int)(h:CL h_ other=some r):CA Tryz.prog 74 [iP h_,iP other] (iP r):=by
 unfold CL at h
 refine vP ⟨[0,1,4,8],[]⟩ Tryz.func74 follows fun Q hQ=>?_
 refine cD 2 [] h (fun hc h=>?_) fun hc h=>?_
 cases h
 exact rt 1 [] hQ
 cases h
 exact rt 1 [] hQ
theorem Um (n:Nat)(l:(List Aa))(s:(List Ac))(day:Int)(r:Int)(h:IL n l s day=some r):CA Tryz.prog 50 [hC l,L8 s,iP day] (iP r):=by
 unfold IL at h
 refine vP ⟨[0,1,2,6,7,8,9,10,11,12,13,17,43,64,71,77],[]⟩ Tryz.func50 follows fun Q hQ=>?_
 refine mI 3 [] h (fun out=>⟨[(6,iP 0),(7,iP out)],[]⟩) ?_ fun y e h hJ=>?_
 rintro out h
 cases h
 exact rt 1 [] hQ
 refine lF 1 [] (A:=(Int×Int)) (fun n (out1,i)=>BZ n s l day out1 i) (fun (out1,i)=>⟨[(0,hC l),(1,L8 s),(2,iP day),(6,iP 0),(7,iP out1),(8,iP i)],[]⟩) (4095,0) e (fun _=>rfl) ?_
 rintro n ⟨out1,i⟩ e ih
 replace e:=(BZ.eq_2 ..).symm.trans e
 refine cD 1 [(2,fl BI s)] e (fun hc7 e=>?_) fun hc7 e=>?_
 obtain⟨x,hx,e⟩:=Ae e
 obtain⟨x1,hx1,e⟩:=Ae e
 refine mE 3 [(3,fi BI hx),(2,fi A7 hx1)] e (fun (i1,common,some_)=>⟨[(0,hC l),(1,L8 s),(2,iP day),(6,iP 0),(7,iP out1),(8,iP i1),(10,iP common),(11,bP some_)],[]⟩) ?_ fun y1 e1 hJ1=>?_
 rintro⟨i1,common,some_⟩ e
 refine mE 2 [] e (fun v71=>⟨[(0,hC l),(1,L8 s),(2,iP day),(6,iP 0),(7,iP out1),(8,iP i1),(10,iP common),(11,bP some_),(13,.fnb 74 [iP out1]),(71,bP v71)],[]⟩) ?_ fun y2 e2 hJ2=>?_
 rintro v71 e
 refine cD 0 [] e (fun hc1 e=>?_) fun hc1 e=>?_
 cases e
 cases h
 exact rt 1 [] hQ
 refine cD 1 [] e (fun hc e=>?_) fun hc e=>?_
 obtain⟨out2,hout2,e⟩:=Ae e
 exact mJ 1 [(2,fk (Mn _ _ _ hout2))] (ih (_,_) e)
 exact mJ 0 [] (ih (_,_) e)
 rcases Am e2 with⟨hc2,e2⟩|⟨hc2,e2⟩
 exact mJ 1 [(1,fo hc2)] (hJ2 _ (oj e2))
 exact mJ 1 [(1,fo hc2)] (hJ2 _ (oj e2))
 refine lF 1 [] (A:=(Int×Int×Bool)) (fun n (i2,common1,some_1)=>Bw n s l x1 day i2 common1 some_1) (fun (i2,common1,some_1)=>⟨[(0,hC l),(1,L8 s),(2,iP day),(6,iP 0),(7,iP out1),(8,iP i2),(9,iP x1.Rank),(10,iP common1),(11,bP some_1)],[]⟩) (i,4095,false) e1 (fun _=>rfl) ?_
 rintro n ⟨i2,common1,some_1⟩ e1 ih1
 replace e1:=(Bw.eq_2 ..).symm.trans e1
 refine mE 0 [] e1 (fun v43=>⟨[(0,hC l),(1,L8 s),(2,iP day),(6,iP 0),(7,iP out1),(8,iP i2),(9,iP x1.Rank),(10,iP common1),(11,bP some_1),(43,bP v43)],[]⟩) ?_ fun y3 e3 hJ3=>?_
 rintro v43 e1
 refine cD 0 [] e1 (fun hc5 e1=>?_) fun hc5 e1=>?_
 obtain⟨x2,hx2,e1⟩:=Ae e1
 obtain⟨x3,hx3,e1⟩:=Ae e1
 refine mE 2 [(3,fi BI hx2),(2,fi A7 hx3)] e1 (fun v64=>⟨[(0,hC l),(1,L8 s),(2,iP day),(6,iP 0),(7,iP out1),(8,iP i2),(9,iP x1.Rank),(10,iP common1),(11,bP some_1),(12,.ptr 0 0),(64,bP v64)],[[tP x3.Name,iP x3.Kind,iP x3.Rank,iP x3.Known,iP x3.From.Op,iP x3.From.N,tP x3.From.S,hX x3.From.Kids,iP x3.From.At,iP x3.To.Op,iP x3.To.N,tP x3.To.S,hX x3.To.Kids,iP x3.To.At,iP x3.When.Op,iP x3.When.N,tP x3.When.S,hX x3.When.Kids,iP x3.When.At,iP x3.Houses]]⟩) ?_ fun y4 e4 hJ4=>?_
 rintro v64 e1
 refine cD 0 [] e1 (fun hc3 e1=>?_) fun hc3 e1=>?_
 exact mJ 2 [] (ih1 (_,_,_) e1)
 exact mJ 1 [] (ih1 (_,_,_) e1)
 rcases Am e4 with⟨hc4,e4⟩|⟨hc4,e4⟩
 obtain⟨a_,ha_,e4⟩:=Ae e4
 exact mJ 1 [(3,fo hc4),(2,fi BI hx2),(2,fk (GO _ _ _ ha_))] (hJ4 _ (oj e4))
 exact mJ 1 [(3,fo hc4)] (hJ4 _ (oj e4))
 exact mJ 1 [] (hJ1 _ (oj e1))
 rcases Am e3 with⟨hc6,e3⟩|⟨hc6,e3⟩
 obtain⟨x4,hx4,e3⟩:=Ae e3
 obtain⟨x5,hx5,e3⟩:=Ae e3
 exact mJ 1 [(2,fl BI s),(1,fo hc6),(3,fi BI hx4),(2,fi A7 hx5)] (hJ3 _ (oj e3))
 exact mJ 1 [(2,fl BI s),(1,fo hc6)] (hJ3 _ (oj e3))
 exact mJ 1 [] (hJ _ (oj e))
theorem CE (n:Nat)(l:(List Aa))(s:(List Ac))(day:Int)(r:Bd)(h:H8 n l s day=some r):CA Tryz.prog 28 [hC l,L8 s,iP day] (.agg [iP r.State,iP r.Houses,hI r.By]):=by
 unfold H8 at h
 refine vP ⟨[0,1,2,6,7,8,10,11,17,18,19,20,42,52,59],[]⟩ Tryz.func28 follows fun Q hQ=>?_
 obtain⟨w,hw,h⟩:=Ae h
 refine wl 2 [(4,fk (Um _ _ _ _ _ hw))] ?_
 refine pvX (.cell 1 2) ?_
 refine mE 2 [(2,fl BI s)] h (fun (out,out1)=>⟨[(6,.ptr 0 0),(7,.ptr 1 0)],[[iP 0,iP 0,.sl [] .own],[iP out,iP w,.prv (out1.map Fy.vals)]]⟩) ?_ fun y e hJ=>?_
 rintro⟨out,out1⟩ h
 replace h:=Am h
 rcases h with⟨hc,h⟩|⟨hc,h⟩
 have h_:=h
 obtain rfl:=Vz hc
 have h:=h_
 clear h_
 refine poR Fy BJ (.cell 1 2) [] ?_
 cases h
 exact rt 2 [(2,fk Abo)] hQ
 refine thR Fy (.cell 1 2) out1 _ rfl (JD hc) fun cap m_ _ hsz=>?_
 obtain⟨data,hdata,h⟩:=Ae h
 refine wl 1 [(2,fs (Zj (σ:=[[iP 0,iP 0,.sl [] .own],[iP out,iP w,.asl 2 0 out1.length cap],DI (out1.map Fy.vals) m_]) (b:=2) (cap:=cap) (e:=m_) hdata rfl))] ?_
 replace h:=Am h
 rcases h with⟨hl,h⟩|⟨hl,h⟩
 refine unR Fy (.cell 1 2) data 2 out1.length cap m_ (HV hl) (Ou (HV hl) (JD hc)) hsz ?_
 refine poR Fy BJ (.cell 1 2) data ?_
 cases h
 exact rt 1 [] hQ
 cases h
 refine lF 1 [] (A:=(Int×Int×Int×(List Int))) (fun n (rank,v19,out2,out3)=>BY n s l day rank v19 out2 out3) (fun (rank,v19,out2,out3)=>⟨[(0,hC l),(2,iP day),(6,.ptr 0 0),(7,.ptr 1 0),(8,iP rank),(17,L8 s),(18,iP (s.length:Int)),(19,iP v19)],[[iP 0,iP 0,.sl [] .own],[iP out2,iP w,.prv (out3.map Fy.vals)]]⟩) (-1,0,0,[]) e (fun _=>rfl) ?_
 rintro n ⟨rank,v19,out2,out3⟩ e ih
 replace e:=(BY.eq_2 ..).symm.trans e
 refine cD 1 [] e (fun hc6 e=>?_) fun hc6 e=>?_
 obtain⟨x,hx,e⟩:=Ae e
 obtain⟨x1,hx1,e⟩:=Ae e
 refine mE 3 [(0,fi BI hx),(6,fi A7 hx1)] e (fun v42=>⟨[(0,hC l),(2,iP day),(6,.ptr 0 0),(7,.ptr 1 0),(8,iP rank),(10,.ptr 2 0),(11,.ptr 3 0),(17,L8 s),(18,iP (s.length:Int)),(19,iP v19),(42,bP v42)],[[iP 0,iP 0,.sl [] .own],[iP out2,iP w,.prv (out3.map Fy.vals)],[iP x.from_,iP x.to_,iP x.clause],[tP x1.Name,iP x1.Kind,iP x1.Rank,iP x1.Known,iP x1.From.Op,iP x1.From.N,tP x1.From.S,hX x1.From.Kids,iP x1.From.At,iP x1.To.Op,iP x1.To.N,tP x1.To.S,hX x1.To.Kids,iP x1.To.At,iP x1.When.Op,iP x1.When.N,tP x1.When.S,hX x1.When.Kids,iP x1.When.At,iP x1.Houses]]⟩) ?_ fun y1 e1 hJ1=>?_
 rintro v42 e
 refine cD 0 [] e (fun hc3 e=>?_) fun hc3 e=>?_
 exact mJ 2 [] (ih (_,_,_,_) e)
 obtain⟨l1,hl1,e⟩:=Ae e
 refine cD 4 [(8,fap Fy (by simp) hl1)] e (fun hc2 e=>?_) fun hc2 e=>?_
 exact mJ 2 [] (ih (_,_,_,_) e)
 refine cD 1 [] e (fun hc1 e=>?_) fun hc1 e=>?_
 exact mJ 2 [] (ih (_,_,_,_) e)
 exact mJ 1 [] (ih (_,_,_,_) e)
 rcases Am e1 with⟨hc4,e1⟩|⟨hc4,e1⟩
 exact mJ 1 [(3,fo hc4)] (hJ1 _ (oj e1))
 obtain⟨a_,ha_,e1⟩:=Ae e1
 rcases Am e1 with⟨hc5,e1⟩|⟨hc5,e1⟩
 exact mJ 1 [(3,fo hc4),(2,fk (GO _ _ _ ha_)),(2,fo hc5)] (hJ1 _ (oj e1))
 exact mJ 1 [(3,fo hc4),(2,fk (GO _ _ _ ha_)),(2,fo hc5)] (hJ1 _ (oj e1))
 exact mJ 1 [] (hJ _ (oj e))
theorem SN (n:Nat)(s:(List Ac))(r:(List Int))(h:EJ n s=some r):J1 Tryz.prog 29 [L8 s] [] (.ret (.fn 53 [.ptr 0 0])) [[.prv (r.map Fy.vals)]]:=by
 unfold EJ at h
 refine vS ⟨[0,2,3,5,7,8,9,10],[]⟩ Tryz.func29 follows fun Q hQ=>?_
 refine wl 1 [] ?_
 refine hwX 6 ?_
 refine mE 2 [(4,fl BI s)] h (fun l=>⟨[(2,.fno false 0 []),(3,.ptr 0 0)],[[.prv (l.map Fy.vals)]]⟩) ?_ fun y e hJ=>?_
 rintro l h
 replace h:=Am h
 rcases h with⟨hc,h⟩|⟨hc,h⟩
 cases h
 refine thR Fy (.cell 0 0) l _ rfl (JD hc) fun cap m_ hcap_ hsz=>?_
 obtain⟨data,hdata,h⟩:=Ae h
 refine wl 1 [(1,fs (Zj (σ:=[[.asl 1 0 l.length cap],DI (l.map Fy.vals) m_]) (b:=1) (cap:=cap) (e:=m_) hdata rfl))] ?_
 replace h:=Am h
 rcases h with⟨hl,h⟩|⟨hl,h⟩
 refine unR Fy (.cell 0 0) data 1 l.length cap m_ (HV hl) (Ou (HV hl) (JD hc)) hsz ?_
 cases h
 exact rt 1 [] hQ
 cases h
 refine lF 1 [] (A:=(Int×(List Int))) (fun n (v9,l1)=>Co n s v9 l1) (fun (v9,l1)=>⟨[(2,.fno false 0 []),(3,.ptr 0 0),(7,L8 s),(8,iP (s.length:Int)),(9,iP v9)],[[.prv (l1.map Fy.vals)]]⟩) (0,[0]) e (fun _=>rfl) ?_
 rintro n ⟨v9,l1⟩ e ih
 replace e:=(Co.eq_2 ..).symm.trans e
 refine cD 1 [] e (fun hc1 e=>?_) fun hc1 e=>?_
 obtain⟨x,hx,e⟩:=Ae e
 obtain⟨l2,hl2,e⟩:=Ae e
 exact mJ 4 [(0,fi BI hx),(10,fap Fy (by simp) hl2)] (ih (_,_) e)
 exact mJ 1 [] (hJ _ (oj e))
theorem Gk (n:Nat)(s:(List Ac))(r:(List Int))(h:EJ n s=some r)(σ:List (List PV)):J1 Tryz.prog 29 [L8 s] σ (.ret (.fn 53 [.ptr σ.length 0])) (σ++[[.prv (r.map Fy.vals)]]) :=
 (VC.grow (SN n s r h) rfl).mono (by
  rintro x σ' ⟨y,τ,⟨rfl,rfl⟩,rfl,rfl⟩
  refine⟨?_,rfl⟩
  show Cl.ret (.fn 53 [.ptr (0+σ.length) 0])=_
  rw [ñ])
end Go.Proofs.YtehfpameijkafaaGreatDoor
namespace Go.Proofs.YtehfpameijkafaaGreatDoor
open Go Go.RowKit Go.Proofs Go.Sort Go.Vl Go.Sp Go.Shelf
theorem Vo {p:Int->Bool}(c:List Int)(k:Nat)(h:k<c.length):(c.take (k+1)).filter p=(c.take k).filter p++(if p c[k] then [c[k]] else []):=by
 rw [List.take_succ_eq_append_getElem h,ę]
 congr 1
 by_cases hp:p c[k]<;>simp [hp]
theorem WI {p:Int->Bool}(c:List Int)(k:Nat):(c.take k).filter p <+: c.filter p:=(List.take_prefix k c).filter p
theorem Qn (r:Option Nat)(n:Nat):(FZ r).room n:=fun _ h=>by simp [FZ,Fence.wide] at h
theorem V6 {P:Program}{f:FuncId}{args:Array Value}{w:World}{R:Ending->World->Prop}{n m:Nat}(h:CallsIn (FZ none) n P f args w R):CallsIn (FZ none) m P f args w R :=
 ⟨h.1,fun cs _=>h.2 cs (Qn _ _)⟩
theorem Uf {P:Program}{l:Nat}{args:Array Value}{w:World}{R:Ending->World->Prop}{n m:Nat}(h:YieldAt (FZ none) n P l args w R):YieldAt (FZ none) m P l args w R:=by
 obtain⟨fn,tmps,assign,body,h1,h2⟩:=h
 exact⟨fn,tmps,assign,body,h1,h2.1,fun c cs _=>h2.2 c cs (Qn _ _)⟩
set_option maxRecDepth 100000 in
set_option maxHeartbeats 4000000 in
theorem YA (F:Fence)(n:Nat)(hfn:∀ f,F.fn f)(hro:F.round=none)(hn:1<=n)(b0 ba len cap l:Nat)(c:List Int)(hreach:c.length*8<=140737488351232)(W:World)
 (hcell0:W.cell? ⟨b0,0,none⟩=some (.slice (some ⟨ba,0,none⟩) len cap))
 (hcon:CallsIn F (n-1) Tryz.prog 54 #[.slice (some ⟨ba,0,none⟩) len cap] W fun e w'=>e=.returned (.slice (some ⟨ba,0,none⟩) c.length cap)/\SJ ba W w'/\∃ O,w'.heap[ba]?=some O/\∀ w2:World,w2.heap[ba]?=some O->∀ k (h:k<c.length),w2.cell? ⟨ba,k,none⟩=some (.int .i64 c[k]))
 (J Jx:List Int->World->Prop) (hJ:∀ s A B,J s A->SJ ba A B->J s B)
 (hY:∀ pre x W1,J pre W1->pre++[x] <+: c.filter (fun x=>decide (x<=41666))->YieldAt F (n-1) Tryz.prog l #[.int .i64 x] W1 fun e W'=>(e=.returned (.bool true)/\J (pre++[x]) W'/\W'.heap[ba]?=W1.heap[ba]?)∨(e=.returned (.bool false)/\Jx (pre++[x]) W'))
 (h0:J [] W) :
 CallsIn F n Tryz.prog 53 #[.func (.yield l) #[] #[],.pointer (some ⟨b0,0,none⟩)] W fun e W'=>(∃ v,e=.returned v)/\(J (c.filter fun x=>decide (x<=41666)) W'∨∃ pre,Jx pre W'):=by
 refine callsIn_of_wp Tryz.func53 rfl (hfn _) ?_ hro
 have h54:F.fn 54:=hfn _
 simp only [Tryz.ntmps53,List.size_toArray,ß,í,Nat.reduceAdd,Nat.reduceSub,Array.replicate_succ,Array.replicate_zero,List.push_toArray,List.append_toArray,þ,List.cons_append]
 gi_wp2_with (gi_at_call 54;refine hcon.mono ?_;rintro e w1 ⟨rfl,hb1,O,hO,hcells⟩)
 have hJ1:J [] w1:=hJ _ _ _ h0 hb1
 gi_loopw [8] (fun i wr=>∃ k:Nat,k<=c.length/\i=.int .i64 k/\J ((c.take k).filter fun x=>decide (x<=41666)) wr/\wr.heap[ba]?=some O)
  (fun i _=>c.length-(intOf i).toNat)
 case atStart=>exact⟨0,ü _,rfl,hJ1,hO⟩
 case round =>
  obtain⟨k,hk,rfl,hJs,hnx⟩:=hrel
  by_cases hlt:k<c.length
  . have hcx:=hcells wr hnx k hlt
    have hsn:=Vo (p:=fun x=>decide (x<=41666)) c k hlt
    by_cases hd:c[k]<=41666
    . rw [Ç (by simpa using hd)] at hsn
      obtain⟨fn,tmps,assign,body,hy,hR⟩:=hY _ c[k] wr hJs (by rw [<- hsn];exact WI c (k+1))
      rw [<- hsn] at hR
      gi_wp2
      refine hR.mono ?_
      rintro e W3 (⟨rfl,hJ3,hk3⟩|⟨rfl,hJx3⟩)
      . gi_wp2
        go_roundw
        case rel=>exact⟨k+1,by omega,by simp,hJ3,hk3.trans hnx⟩
        case measure=>simp [intOf];omega
      . gi_wp2
        refine bodyPost_ret (results_none rfl _ _ _) rfl ?_
        exact⟨⟨_,rfl⟩,.inr ⟨_,hJx3⟩⟩
    . rw [Ä (by simpa using hd),ą] at hsn
      gi_wp2
      go_roundw
      case rel=>exact⟨k+1,by omega,by simp,by rw [hsn];exact hJs,hnx⟩
      case measure=>simp [intOf];omega
  . obtain rfl:k=c.length:=by omega
    gi_wp2
    go_end0
    rw [List.take_length] at hJs
    exact⟨⟨_,rfl⟩,.inl hJs⟩
theorem ZN (zs:List Int)(hreach:zs.length*8<=140737488351232):Abn Tryz.prog 53 zs (Dj zs):=by
 intro b0 ba cap T Ta arr hne hcap hcapm harr W hW l J Jx hJ hJx hY h0
 obtain⟨hW0,hWa⟩:=hW
 have hlt:ba<W.heap.size:=(Array.getElem?_eq_some_iff.1 hWa).1
 have hcell0:W.cell? ⟨b0,0,none⟩=some (.slice (some ⟨ba,0,none⟩) zs.length cap):=by simp [World.cell?,hW0]
 have hH:Holds (Value.int .i64) W ba 0 zs.toArray:=by
  intro j hj
  have hj':j<zs.length:=by simpa using hj
  refine⟨?_,?_⟩
  . rw [ñ]
    have h:=harr j hj'
    simp [World.cell?,hWa,h,hj']
  . simp [World.frozen?,hWa]
 have hcon:CallsIn (FZ none) (1-1) Tryz.prog 54 #[.slice (some ⟨ba,0,none⟩) zs.length cap] W fun e w'=>e=.returned (.slice (some ⟨ba,0,none⟩) (Lib.compact zs).length cap)/\SJ ba W w'/\∃ O,w'.heap[ba]?=some O/\∀ w2:World,w2.heap[ba]?=some O->∀ k (h:k<(Lib.compact zs).length),w2.cell? ⟨ba,k,none⟩=some (.int .i64 (Lib.compact zs)[k]) :=
  (M0 (Tryz.slices_Compact_int ba 0 cap zs W hH (by omega) hcap)).mono (by
   rintro e w' ⟨rfl,q,rfl⟩
   refine⟨rfl,⟨rfl,rfl,rfl,?_,fun k _ hk=>OU _ (Sort.ahead W q) ba _ k hk⟩,_,OS _ (Sort.ahead W q) ba _ hWa,?_⟩
   . show W.heap.size<=(W.heap.modify _ _).size
     simp
   . intro w2 hw2 k hk
     have hl:=Lib.compact_length_le zs
     have hg:=Nu (Lib.compact zs++List.replicate (zs.length-(Lib.compact zs).length) 0) arr k
     have hka:k<arr.size:=(Array.getElem?_eq_some_iff.1 (harr k (by omega))).1
     rw [dif_pos ⟨by simp;omega,hka⟩,Ċ hk] at hg
     have hs2:=Mu (Lib.compact zs++List.replicate (zs.length-(Lib.compact zs).length) 0) arr
     simp only [World.cell?,hw2]
     rw [É,ã (by rw [hs2];exact hka)] at hg
     rw [ã (by rw [hs2];exact hka)]
     simpa using hg)
 have hcl:=Lib.compact_length_le zs
 have hY:=hY
 unfold Dj at hY ⊢
 rw [<- Xb] at hY ⊢
 exact V6 (n:=1) (YA (FZ none) 1 (fun _=>trivial) rfl (à _) b0 ba zs.length cap l (Lib.compact zs) (by omega) W hcell0 hcon J Jx hJ (fun pre x W1 h1 h2=>Uf (hY pre x W1 h1 h2)) h0)
end Go.Proofs.YtehfpameijkafaaGreatDoor
namespace Go.Proofs.YtehfpameijkafaaGreatDoor
open Go.RowKit Go.Q Go.Vl Go.Sp
set_option maxRecDepth 100000
set_option linter.unusedSimpArgs false
set_option maxHeartbeats 4000000
set_option linter.unusedVariables false
theorem K8 (n:Nat)(l:(List Aa))(d:Aj)(known:Int)(r:((List Ba)×Int))(h:Hc n l d known=some r):CA Tryz.prog 11 [hC l,.agg [hZ d.Facts,iP d.Stored,iP d.Owner],iP known] (.tup [hX8 r.1,iP r.2]):=by
 unfold Hc at h
 refine vRP ⟨[0,1,2,3,4,6,7,8,9,10,11,12,13,22,25,26,56,58],[(9,[9999,0,0,1,2,3,4,5,6,7,8,9,10,11,12,13,14,15,16,17,18,19,20,21,22,23])]⟩ Tryz.func11 follows fun Q hQ=>?_
 obtain⟨s,hs,h⟩:=Ae h
 refine cD 3 [(7,fk (IY _ _ _ _ _ hs))] h (fun hc6 h=>?_) fun hc6 h=>?_
 cases h
 exact rtG 1 [] hQ
 refine wl 1 [] ?_
 refine pvX (.cell 3 0) ?_
 obtain⟨zs,hzs,h⟩:=Ae h
 refine wl 1 [(1,fs (Gk _ _ _ hzs [[hC l],[hZ d.Facts,iP d.Stored,iP d.Owner],[L8 s.1],[.prv []]]))] ?_
 replace h:=Am h
 rcases h with⟨hz,h⟩|⟨hz,h⟩
 cases h
 replace h:=Am h
 rcases h with⟨hr,h⟩|⟨hr,h⟩
 refine rgW 0 [] 4 53 26 zs (Dj zs) [(3,.ptr 0 0),(8,.ptr 2 0),(10,.ptr 3 0)] (fun days_ out=>Cj n l s days_ out) (fun out=>[[hC l],[hZ d.Facts,iP d.Stored,iP d.Owner],[L8 s.1],[.prv (out.map Bk.vals)]]) (fun day_ out=>⟨[(3,.ptr 0 0),(8,.ptr 2 0),(10,.ptr 3 0),(11,iP day_)],[[hC l],[hZ d.Facts,iP d.Stored,iP d.Owner],[L8 s.1],[.prv (out.map Bk.vals)]]⟩) [] h (JD hz) (ZN zs (ć hr)) (fun _=>⟨rfl,by kernel_rfl⟩) (fun _ _=>by kernel_rfl) (by kernel_rfl) ?_ ?_
 rintro day days out h J ih
 replace h:=(Cj.eq_2 ..).symm.trans h
 obtain⟨x,hx,h⟩:=Ae h
 refine wl 2 [(3,fk (CE _ _ _ _ _ hx))] ?_
 replace h:=Am h
 rcases h with⟨hc1,h⟩|⟨hc1,h⟩
 have h_:=h
 obtain rfl:=Vz hc1
 have h:=h_
 clear h_
 refine poR Bk DX (.cell 3 0) [] ?_
 refine wl 5 [] ?_
 refine pvX (.cell 3 0) ?_
 obtain⟨l1,hl1,h⟩:=Ae h
 exact rgE 1 [(8,fap Bk (by simp) hl1)] (ih _ h)
 refine thR Bk (.cell 3 0) out _ rfl (JD hc1) fun cap m_ _ hsz=>?_
 refine mE 1 [] h (fun v56=>⟨[(10,.ptr 3 0),(11,iP day),(12,.ptr 4 0),(13,iP (out.length:Int)),(56,bP v56)],[[hC l],[hZ d.Facts,iP d.Stored,iP d.Owner],[L8 s.1],[.asl 5 0 out.length cap],[iP x.State,iP x.Houses,hI x.By],DI (out.map Bk.vals) m_]⟩) ?_ fun y e hJ=>?_
 rintro v56 h
 refine cD 0 [] h (fun hc3 h=>?_) fun hc3 h=>?_
 refine wl 1 [] ?_
 replace h:=Am h
 rcases h with⟨hl,h⟩|⟨hl,h⟩
 refine unR Bk (.cell 3 0) out 5 out.length cap m_ (HV hl) (Ou (HV hl) (JD hc1)) hsz ?_
 exact rgE 0 [] (ih _ h)
 cases h
 refine cD 1 [] h (fun hc2 h=>?_) fun hc2 h=>?_
 obtain⟨_,hu,h⟩:=Ae h
 obtain⟨l2,hl2,h⟩:=Ae h
 refine wl 1 [(5,NV 5 4 out.length (Eu hu)),(1,fsM Bk m_ 1 [(.int .i64 (À (day-1)))] hl2 (Ø rfl) (fun _=>rfl))] ?_
 replace h:=Am h
 rcases h with⟨hl3,h⟩|⟨hl3,h⟩
 refine unR Bk (.cell 3 0) l2 5 out.length cap m_ (HV hl3) (Ou (HV hl3) (JD hc1)) hsz ?_
 obtain⟨l3,hl31,h⟩:=Ae h
 exact rgE 1 [(8,fap Bk (by simp) hl31)] (ih _ h)
 cases h
 replace h:=Am h
 rcases h with⟨hl4,h⟩|⟨hl4,h⟩
 refine unR Bk (.cell 3 0) out 5 out.length cap m_ (HV hl4) (Ou (HV hl4) (JD hc1)) hsz ?_
 obtain⟨l4,hl41,h⟩:=Ae h
 exact rgE 1 [(8,fap Bk (by simp) hl41)] (ih _ h)
 cases h
 rcases Am e with⟨hc4,e⟩|⟨hc4,e⟩
 obtain⟨_,hu1,e⟩:=Ae e
 obtain⟨x1,hx1,e⟩:=Ae e
 rcases Am e with⟨hc5,e⟩|⟨hc5,e⟩
 exact mJ 1 [(2,fo hc4),(3,NV 5 4 out.length (Eu hu1)),(1,flf Bk m_ 2 hx1 rfl),(4,fo hc5),(3,NV 5 4 out.length (Eu hu1)),(1,flf Bk m_ 3 hx1 rfl)] (hJ _ (oj e))
 exact mJ 1 [(2,fo hc4),(3,NV 5 4 out.length (Eu hu1)),(1,flf Bk m_ 2 hx1 rfl),(4,fo hc5)] (hJ _ (oj e))
 exact mJ 1 [(2,fo hc4)] (hJ _ (oj e))
 rintro out h
 replace h:=(Cj.eq_1 ..).symm.trans h
 refine poR Bk DX (.cell 3 0) out ?_
 cases h
 exact rt 1 [] hQ
 cases h
theorem Nn (n:Nat)(l:(List Aa))(d:Aj)(day:Int)(known:Int)(r:(Bd×Int))(h:FX n l d day known=some r):CA Tryz.prog 10 [hC l,.agg [hZ d.Facts,iP d.Stored,iP d.Owner],iP day,iP known] (.tup [.agg [iP r.1.State,iP r.1.Houses,hI r.1.By],iP r.2]):=by
 unfold FX at h
 refine vP ⟨[0,1,2,3,5,8,9,10,11,20,28],[]⟩ Tryz.func10 follows fun Q hQ=>?_
 obtain⟨s,hs,h⟩:=Ae h
 refine cD 3 [(6,fk (IY _ _ _ _ _ hs))] h (fun hc2 h=>?_) fun hc2 h=>?_
 cases h
 exact rt 1 [] hQ
 refine mE 0 [] h (fun v28=>⟨[(0,hC l),(2,iP day),(8,.ptr 1 0),(9,iP 0),(10,L8 s.1),(28,bP v28)],[[hZ d.Facts,iP d.Stored,iP d.Owner],[iP 0,iP 0,.sl [] .own]]⟩) ?_ fun y e hJ=>?_
 rintro v28 h
 refine cD 0 [] h (fun hc h=>?_) fun hc h=>?_
 cases h
 exact rt 1 [] hQ
 obtain⟨a_,ha_,h⟩:=Ae h
 cases h
 exact rt 1 [(3,fk (CE _ _ _ _ _ ha_))] hQ
 rcases Am e with⟨hc1,e⟩|⟨hc1,e⟩
 exact mJ 1 [(2,fo hc1)] (hJ _ (oj e))
 exact mJ 1 [(2,fo hc1)] (hJ _ (oj e))
theorem SO (n:Nat)(l:(List Aa))(d:Aj)(known:Int)(r:(Int×Int×Int))(h:LL n l d known=some r):CA Tryz.prog 12 [hC l,.agg [hZ d.Facts,iP d.Stored,iP d.Owner],iP known] (.tup [iP r.1,iP r.2.1,iP r.2.2]):=by
 unfold LL at h
 refine vP ⟨[0,1,2,4,6,7,8,9,11,20,22,23,24,25,28,34],[]⟩ Tryz.func12 follows fun Q hQ=>?_
 obtain⟨s,hs,h⟩:=Ae h
 refine cD 3 [(7,fk (K8 _ _ _ _ _ hs))] h (fun hc4 h=>?_) fun hc4 h=>?_
 cases h
 exact rt 1 [] hQ
 refine mE 2 [(3,fl CT s.1)] h (fun (keep,drop)=>⟨[(6,iP keep),(7,iP drop),(8,iP s.2)],[[hZ d.Facts,iP d.Stored,iP d.Owner]]⟩) ?_ fun y e hJ=>?_
 rintro⟨keep,drop⟩ h
 cases h
 exact rt 1 [] hQ
 refine lF 1 [] (A:=(Int×Int×Int)) (fun n (keep1,drop1,v24)=>EC n s d keep1 drop1 v24) (fun (keep1,drop1,v24)=>⟨[(4,.ptr 0 0),(6,iP keep1),(7,iP drop1),(8,iP s.2),(22,hX8 s.1),(23,iP (s.1.length:Int)),(24,iP v24)],[[hZ d.Facts,iP d.Stored,iP d.Owner]]⟩) (-1,41667,0) e (fun _=>rfl) ?_
 rintro n ⟨keep1,drop1,v24⟩ e ih
 replace e:=(EC.eq_2 ..).symm.trans e
 refine cD 1 [] e (fun hc3 e=>?_) fun hc3 e=>?_
 obtain⟨x,hx,e⟩:=Ae e
 refine cD 4 [(0,fi CT hx)] e (fun hc2 e=>?_) fun hc2 e=>?_
 exact mJ 2 [] (ih (_,_,_) e)
 refine mE 0 [] e (fun v34=>⟨[(4,.ptr 0 0),(6,iP keep1),(7,iP drop1),(8,iP s.2),(11,.ptr 1 0),(22,hX8 s.1),(23,iP (s.1.length:Int)),(24,iP v24),(34,bP v34)],[[hZ d.Facts,iP d.Stored,iP d.Owner],[iP x.From,iP x.To,iP x.State,iP x.Houses]]⟩) ?_ fun y1 e1 hJ1=>?_
 rintro v34 e
 refine cD 0 [] e (fun hc e=>?_) fun hc e=>?_
 exact mJ 2 [] (ih (_,_,_) e)
 exact mJ 1 [] (ih (_,_,_) e)
 rcases Am e1 with⟨hc1,e1⟩|⟨hc1,e1⟩
 exact mJ 1 [(3,fo hc1)] (hJ1 _ (oj e1))
 exact mJ 1 [(3,fo hc1)] (hJ1 _ (oj e1))
 exact mJ 1 [] (hJ _ (oj e))
end Go.Proofs.YtehfpameijkafaaGreatDoor
namespace Go.Proofs.YtehfpameijkafaaGreatDoor
open Go Go.RowKit Go.Q Go.Vl Go.Sp
set_option maxRecDepth 100000
theorem VC.full {P:Program}{f:FuncId}{args:List PV}{σ σ1:List (List PV)}(h:VC P f args σ fun x σ'=>(x=.ret (.sl [] .own)∨x=.ret (.sl [] .full))/\σ'=σ1):VC P f args σ fun x σ'=>x=.ret (.sl [] .full)/\σ'=σ1:=by
 intro w G vs h1 h2 h3 h4 h5
 refine (h w G vs h1 h2 h3 h4 h5).mono ?_
 rintro e w' ⟨x,σ',G',⟨rfl|rfl,rfl⟩,⟨v,rfl,hv,ht⟩,hs,hx⟩
 . refine⟨_,_,G',⟨rfl,rfl⟩,⟨v,rfl,?_,trivial⟩,hs,hx⟩
   rcases (show A0 w' G' (.ret 0) [] v from ht) with⟨_,rfl⟩|⟨b,cap,sz,T,arr,_,hne,_⟩
   . exact .nil _ _
   . exact absurd rfl hne
 . exact⟨_,_,G',⟨rfl,rfl⟩,⟨v,rfl,hv,ht⟩,hs,hx⟩
theorem Abr:CA Tryz.prog 30 [.sl [] .shared] (.sl [] .full):=by
 intro σ
 have h0:VC Tryz.prog 30 [.sl [] .shared] [] (fun x σ'=>(x=.ret (.sl [] .own)∨x=.ret (.sl [] .full))/\σ'=[]):=by
  refine beg (L:=⟨[0,2,4],[]⟩) Tryz.func30 follows (by kernel_rfl) ?_
  refine brN 1 [] fun b=>?_
  cases b
  . exact ro 2 [] (R:=.sl [] .full) fun y hy=>⟨.inr (by rw [hy]),rfl⟩
  . exact ro 2 [] (R:=.sl [] .own) fun y hy=>⟨.inl (by rw [hy]),rfl⟩
 have h1:=VC.full h0
 refine (VC.grow h1 rfl).mono ?_
 rintro x σ' ⟨y,τ,⟨rfl,rfl⟩,rfl,rfl⟩
 exact⟨rfl,by simp⟩
theorem Xr (s:(List Ac))(hs:s=[]):CA Tryz.prog 30 [hP s CN] (.sl [] .full):=by
 subst hs
 exact Abr
theorem Abq (s:(List Ac))(hs:s≠[])(r:(List Ac))(hl:Ca 24 [] s=some r):CA Tryz.prog 30 [hP s CN] (oP r CN):=by
 cases s with
 |nil=>exact absurd rfl hs
 |cons x s =>
  refine vPo ⟨[0,2,4],[]⟩ Tryz.func30 follows fun Q hQ=>?_
  refine wl 3 [] ?_
  exact ro 1 [(2,faF BI hl (by simp))] hQ
end Go.Proofs.YtehfpameijkafaaGreatDoor
namespace Go.Proofs.YtehfpameijkafaaGreatDoor
open Go.RowKit Go.Q Go.Vl Go.Sp
set_option maxRecDepth 100000
set_option linter.unusedSimpArgs false
set_option maxHeartbeats 4000000
set_option linter.unusedVariables false
theorem Jp (n:Nat)(l:(List Aa))(d:Aj)(known:Int)(later:Int)(r:(Int×Int))(h:D0 n l d known later=some r):CA Tryz.prog 13 [hC l,.agg [hZ d.Facts,iP d.Stored,iP d.Owner],iP known,iP later] (.tup [iP r.1,iP r.2]):=by
 unfold D0 at h
 refine vRP ⟨[0,1,2,3,4,5,8,9,10,11,12,13,14,15,24,34,40,41,61],[(7,[9999,0,0,2,1,3,4]),(9,[9995])]⟩ Tryz.func13 follows fun Q hQ=>?_
 obtain⟨s,hs,h⟩:=Ae h
 refine cD 3 [(7,fk (IY _ _ _ _ _ hs))] h (fun hc6 h=>?_) fun hc6 h=>?_
 cases h
 exact rtG 1 [] hQ
 obtain⟨s1,hs1,h⟩:=Ae h
 refine cD 2 [(3,fk (IY _ _ _ _ _ hs1))] h (fun hc5 h=>?_) fun hc5 h=>?_
 cases h
 exact rtG 1 [] hQ
 refine mE 0 [] h (fun q=>⟨[(4,.ptr 0 0),(8,.ptr 2 0),(9,.ptr 3 0),(10,.ptr 4 0),(12,.ptr 5 0),(40,.fn 53 [.ptr 6 0])],[[hC l],[hZ d.Facts,iP d.Stored,iP d.Owner],[iP 0],[iP 0],[L8 s.1],[L8 s1.1],[.prv (q.map Fy.vals)]]⟩) ?_ fun y e hJ=>?_
 rintro q h
 replace h:=Am h
 rcases h with⟨hz,h⟩|⟨hz,h⟩
 cases h
 replace h:=Am h
 rcases h with⟨hr,h⟩|⟨hr,h⟩
 refine rgW 0 [] 6 53 41 q (Dj q) [(4,.ptr 0 0),(8,.ptr 2 0),(9,.ptr 3 0),(10,.ptr 4 0),(12,.ptr 5 0)] (fun days_ _=>C9 n l s s1 days_) (fun _=>[[hC l],[hZ d.Facts,iP d.Stored,iP d.Owner],[iP 0],[iP 0],[L8 s.1],[L8 s1.1]]) (fun day_ _=>⟨[(4,.ptr 0 0),(8,.ptr 2 0),(9,.ptr 3 0),(10,.ptr 4 0),(12,.ptr 5 0),(13,iP day_)],[[hC l],[hZ d.Facts,iP d.Stored,iP d.Owner],[iP 0],[iP 0],[L8 s.1],[L8 s1.1]]⟩) () h (JD hz) (ZN q (ć hr)) (fun _=>⟨rfl,by kernel_rfl⟩) (fun _ _=>by kernel_rfl) (by kernel_rfl) ?_ ?_
 rintro day days _ h J ih
 replace h:=(C9.eq_2 ..).symm.trans h
 obtain⟨x,hx,h⟩:=Ae h
 obtain⟨y1,hy1,h⟩:=Ae h
 refine wl 1 [] ?_
 refine xE 12 [.no,.no,.no,.call (.agg [iP x.State,iP x.Houses,hI x.By]),.no,.no,.no,.call (.agg [iP y1.State,iP y1.Houses,hI y1.By]),.no,.no,.no,.no] ⟨[(8,.ptr 2 0),(9,.ptr 3 0),(13,iP day),(14,.ptr 6 0),(15,.ptr 7 0)],[[hC l],[hZ d.Facts,iP d.Stored,iP d.Owner],[iP 0],[iP 0],[L8 s.1],[L8 s1.1],[iP x.State,iP x.Houses,hI x.By],[iP y1.State,iP y1.Houses,hI y1.By]]⟩ (And.intro (And.intro (CE n l s.1 day x hx) (And.intro (And.intro (CE n l s1.1 day y1 hy1) (And.intro True.intro (And.intro (And.intro True.intro True.intro) True.intro))) (And.intro (And.intro (And.intro (CE n l s1.1 day y1 hy1) True.intro) (And.intro (And.intro (CE n l s1.1 day y1 hy1) True.intro) True.intro)) (And.intro (And.intro (And.intro (CE n l s1.1 day y1 hy1) (And.intro True.intro True.intro)) (And.intro (And.intro (CE n l s1.1 day y1 hy1) True.intro) True.intro)) True.intro)))) (And.intro (And.intro (And.intro (CE n l s.1 day x hx) (And.intro (And.intro (CE n l s1.1 day y1 hy1) True.intro) (And.intro (And.intro (CE n l s1.1 day y1 hy1) True.intro) True.intro))) (And.intro (And.intro (CE n l s.1 day x hx) (And.intro (CE n l s1.1 day y1 hy1) True.intro)) True.intro)) (And.intro (And.intro (And.intro (CE n l s.1 day x hx) (And.intro (And.intro (CE n l s1.1 day y1 hy1) (And.intro True.intro True.intro)) (And.intro (And.intro (CE n l s1.1 day y1 hy1) True.intro) True.intro))) (And.intro (And.intro (CE n l s.1 day x hx) (And.intro (CE n l s1.1 day y1 hy1) True.intro)) True.intro)) True.intro))) ?_
 refine mE 0 [] h (fun v61=>⟨[(8,.ptr 2 0),(9,.ptr 3 0),(13,iP day),(61,bP v61)],[[hC l],[hZ d.Facts,iP d.Stored,iP d.Owner],[iP 0],[iP 0],[L8 s.1],[L8 s1.1],[iP x.State,iP x.Houses,hI x.By],[iP y1.State,iP y1.Houses,hI y1.By]]⟩) ?_ fun y2 e1 hJ1=>?_
 rintro v61 h
 refine cD 0 [] h (fun hc1 h=>?_) fun hc1 h=>?_
 cases h
 exact rgT 1 [] hQ
 exact rgE 0 [] (ih () h)
 rcases Am e1 with⟨hc2,e1⟩|⟨hc2,e1⟩
 exact mJ 1 [(5,fo hc2)] (hJ1 _ (oj e1))
 exact mJ 1 [(5,fo hc2)] (hJ1 _ (oj e1))
 rintro _ h
 replace h:=(C9.eq_1 ..).symm.trans h
 cases h
 exact rt 1 [] hQ
 cases h
 replace e:=Am e
 rcases e with⟨hc3,e⟩|⟨hc3,e⟩
 rcases Aed s1.1 with he|he
 obtain⟨l1,hl1,e⟩:=Ae e
 obtain⟨zs,hzs,e⟩:=Ae e
 exact mJ 1 [(2,fk (Xr s.1 (Vz hc3))),(0,faE BI hl1 he),(0,fs (Gk _ _ _ hzs [[hC l],[hZ d.Facts,iP d.Stored,iP d.Owner],[iP 0],[iP 0],[L8 s.1],[L8 s1.1]]))] (hJ _ (oj e))
 obtain⟨l1,hl1,e⟩:=Ae e
 obtain⟨zs,hzs,e⟩:=Ae e
 exact mJ 1 [(2,fk (Xr s.1 (Vz hc3))),(0,faF BI hl1 he),(0,fs (Gk _ _ _ hzs [[hC l],[hZ d.Facts,iP d.Stored,iP d.Owner],[iP 0],[iP 0],[L8 s.1],[L8 s1.1]]))] (hJ _ (oj e))
 obtain⟨c,hc4,e⟩:=Ae e
 obtain⟨l2,hl2,e⟩:=Ae e
 obtain⟨zs1,hzs1,e⟩:=Ae e
 exact mJ 1 [(2,fk (Abq s.1 (JD hc3) _ hc4)),(0,fa BI hl2),(0,fs (Gk _ _ _ hzs1 [[hC l],[hZ d.Facts,iP d.Stored,iP d.Owner],[iP 0],[iP 0],[L8 s.1],[L8 s1.1]]))] (hJ _ (oj e))
end Go.Proofs.YtehfpameijkafaaGreatDoor
namespace Go.Proofs.YtehfpameijkafaaGreatDoor
open Go.RowKit Go.Q Go.Vl Go.Sp
set_option maxRecDepth 100000
set_option linter.unusedSimpArgs false
set_option maxHeartbeats 4000000
set_option linter.unusedVariables false
theorem Hq (r:(List AJ))(h:Gq=some r):CA Tryz.prog 174 [] (oE r):=by
 unfold Gq at h
 refine vPo ⟨[0],[]⟩ Tryz.func174 follows fun Q hQ=>?_
 obtain⟨l,hl,h⟩:=Ae h
 cases h
 exact ro 2 [(14,fB EY hl)] hQ
theorem Ay (p:Ad)(e:Int)(r:(Ex Ao Ad Unit))(h:Bi p e=some r):K5 r (fun v0 s0=>D9 Tryz.prog 114 [iP e] [hT p.l,iP p.forms] (.ret (.tup [])) [hT s0.l,iP s0.forms]) (fun e0 s0=>D9 Tryz.prog 114 [iP e] [hT p.l,iP p.forms] (.pan [{ v:=.iface 188 (.agg #[(.int .i64 e0.At),(.int .i64 e0.E)]),recovered:=false }]) [hT s0.l,iP s0.forms]):=by
 unfold Bi at h
 refine vMx ⟨[0,1],[]⟩ Tryz.func114 follows fun Q hQ=>?_
 obtain⟨x,hx,h⟩:=Ae h
 cases h
 exact rp 1 [(4,fi Cp hx)] hQ
theorem AO (p:Ad)(r:(Ap×Ad))(h:AI p=some r):D9 Tryz.prog 115 [] [hT p.l,iP p.forms] (.ret (.agg [iP r.1.Kind,iP r.1.At,tP r.1.S,iP r.1.N])) [hT r.2.l,iP r.2.forms]:=by
 unfold AI at h
 refine vM ⟨[0,2,3],[]⟩ Tryz.func115 follows fun Q hQ=>?_
 obtain⟨x,hx,h⟩:=Ae h
 obtain⟨l,hl,h⟩:=Ae h
 cases h
 exact rt 4 [(5,fi Cp hx),(8,fse Cp hl)] hQ
theorem AZ (p:Ad)(s:Æ)(r:Bool)(h:Be p s=some r):D9 Tryz.prog 116 [tP s] [hT p.l,iP p.forms] (.ret (bP r)) [hT p.l,iP p.forms]:=by
 unfold Be at h
 refine vM ⟨[0,1,4],[]⟩ Tryz.func116 follows fun Q hQ=>?_
 refine mE 1 [] h (fun v4=>⟨[(4,bP v4)],[[hT p.l,iP p.forms]]⟩) ?_ fun y e hJ=>?_
 rintro v4 h
 cases h
 exact rt 0 [] hQ
 obtain⟨x,hx,e⟩:=Ae e
 rcases Am e with⟨hc,e⟩|⟨hc,e⟩
 exact mJ 1 [(4,fi Cp hx),(3,fo hc),(4,fi Cp hx)] (hJ _ (oj e))
 exact mJ 1 [(4,fi Cp hx),(3,fo hc)] (hJ _ (oj e))
theorem Cy (p:Ad)(r:Bool)(h:Dn p=some r):D9 Tryz.prog 117 [] [hT p.l,iP p.forms] (.ret (bP r)) [hT p.l,iP p.forms]:=by
 unfold Dn at h
 refine vM ⟨[0,2,9,10],[]⟩ Tryz.func117 follows fun Q hQ=>?_
 obtain⟨x,hx,h⟩:=Ae h
 refine mE 4 [(5,fi Cp hx)] h (fun v10=>⟨[(0,.ptr 0 0),(2,bP false),(10,bP v10)],[[hT p.l,iP p.forms]]⟩) ?_ fun y e hJ=>?_
 rintro v10 h
 refine cD 0 [] h (fun hc1 h=>?_) fun hc1 h=>?_
 cases h
 exact rt 1 [] hQ
 refine mE 0 [] h (fun v2=>⟨[(2,bP v2)],[[hT p.l,iP p.forms]]⟩) ?_ fun y1 e1 hJ1=>?_
 rintro v2 h
 cases h
 exact rt 0 [] hQ
 obtain⟨i,hi,e1⟩:=Ae e1
 rcases Am e1 with⟨hc,e1⟩|⟨hc,e1⟩
 exact mJ 1 [(1,fm (AZ _ _ _ hi)),(0,fo hc)] (hJ1 _ (oj e1))
 obtain⟨i1,hi1,e1⟩:=Ae e1
 exact mJ 1 [(1,fm (AZ _ _ _ hi)),(0,fo hc),(1,fm (AZ _ _ _ hi1))] (hJ1 _ (oj e1))
 refine cD 0 [] e (fun hc3 e=>?_) fun hc3 e=>?_
 exact mJ 0 [] (hJ _ (oj e))
 refine cD 1 [] e (fun hc2 e=>?_) fun hc2 e=>?_
 exact mJ 0 [] (hJ _ (oj e))
 exact mJ 1 [] (hJ _ (oj e))
theorem HB (p:Ad)(r:(Ex Ao Ad Int))(h:Gd p=some r):K5 r (fun v0 s0=>D9 Tryz.prog 145 [] [hT p.l,iP p.forms] (.ret (iP v0)) [hT s0.l,iP s0.forms]) (fun e0 s0=>D9 Tryz.prog 145 [] [hT p.l,iP p.forms] (.pan [{ v:=.iface 188 (.agg #[(.int .i64 e0.At),(.int .i64 e0.E)]),recovered:=false }]) [hT s0.l,iP s0.forms]):=by
 unfold Gd at h
 refine vMx ⟨[0,2,10],[]⟩ Tryz.func145 follows fun Q hQ=>?_
 obtain⟨x,hx,h⟩:=Ae h
 refine cD 2 [(5,fi Cp hx)] h (fun hc h=>?_) fun hc h=>?_
 refine yE h (fun f p1 hy h=>?_) fun e p2 hy h=>?_
 obtain⟨n_,hn_,h⟩:=Ae h
 cases h
 exact rt 2 [(1,fm (Ay _ _ (.ok f p1) hy)),(1,fm (AO _ _ hn_))] hQ
 cases h
 exact rp 1 [(1,LC (Ay _ _ (.pan e p2) hy))] hQ
 obtain⟨n_1,hn_1,h⟩:=Ae h
 cases h
 exact rt 1 [(1,fm (AO _ _ hn_1))] hQ
theorem BW (p:Ad)(depth:Int)(not_:Bool)(r:(Ex Ao Ad Unit))(h:Dg p depth not_=some r):K5 r (fun v0 s0=>D9 Tryz.prog 162 [iP depth,bP not_] [hT p.l,iP p.forms] (.ret (.tup [])) [hT s0.l,iP s0.forms]) (fun e0 s0=>D9 Tryz.prog 162 [iP depth,bP not_] [hT p.l,iP p.forms] (.pan [{ v:=.iface 188 (.agg #[(.int .i64 e0.At),(.int .i64 e0.E)]),recovered:=false }]) [hT s0.l,iP s0.forms]):=by
 unfold Dg at h
 refine vMx ⟨[0,1,2,16,20],[]⟩ Tryz.func162 follows fun Q hQ=>?_
 refine mE 0 [] h (fun v16=>⟨[(0,.ptr 0 0),(1,iP depth),(16,bP v16)],[[hT p.l,iP p.forms]]⟩) ?_ fun y e hJ=>?_
 rintro v16 h
 refine mI 0 [] h (fun (p1,p2)=>⟨[(0,.ptr 0 0),(1,iP depth)],[[hT p1,iP p2]]⟩) ?_ fun y1 e1 h hJ1=>?_
 rintro⟨p1,p2⟩ h
 refine cD 1 [] h (fun hc h=>?_) fun hc h=>?_
 refine yE h (fun f p3 hy2 h=>?_) fun e2 p4 hy2 h=>?_
 cases h
 exact rt 1 [(1,fm (Ay _ _ (.ok f p3) hy2))] hQ
 cases h
 exact rp 1 [(1,LC (Ay _ _ (.pan e2 p4) hy2))] hQ
 cases h
 exact rt 0 [] hQ
 refine cD 0 [] e1 (fun hc1 e1=>?_) fun hc1 e1=>?_
 refine yE e1 (fun f1 p5 hy3 e1=>?_) fun e3 p6 hy3 e1=>?_
 exact mJ 1 [(1,fm (Ay _ _ (.ok f1 p5) hy3))] (hJ1 _ (oj e1))
 cases e1
 cases h
 exact rp 1 [(1,LC (Ay _ _ (.pan e3 p6) hy3))] hQ
 exact mJ 0 [] (hJ1 _ (oj e1))
 obtain⟨b,hb,e⟩:=Ae e
 rcases Am e with⟨hc2,e⟩|⟨hc2,e⟩
 rcases Am e with⟨hc3,e⟩|⟨hc3,e⟩
 obtain⟨i,hi,e⟩:=Ae e
 exact mJ 1 [(1,fm (Cy _ _ hb)),(1,fo hc2),(1,fo hc3),(1,fm (AZ _ _ _ hi))] (hJ _ (oj e))
 exact mJ 1 [(1,fm (Cy _ _ hb)),(1,fo hc2),(1,fo hc3)] (hJ _ (oj e))
 exact mJ 1 [(1,fm (Cy _ _ hb)),(1,fo hc2)] (hJ _ (oj e))
theorem BV (p:Ad)(s:Æ)(r:(Ex Ao Ad Unit))(h:Df p s=some r):K5 r (fun v0 s0=>D9 Tryz.prog 147 [tP s] [hT p.l,iP p.forms] (.ret (.tup [])) [hT s0.l,iP s0.forms]) (fun e0 s0=>D9 Tryz.prog 147 [tP s] [hT p.l,iP p.forms] (.pan [{ v:=.iface 188 (.agg #[(.int .i64 e0.At),(.int .i64 e0.E)]),recovered:=false }]) [hT s0.l,iP s0.forms]):=by
 unfold Df at h
 refine vMx ⟨[0,1,7],[]⟩ Tryz.func147 follows fun Q hQ=>?_
 obtain⟨i,hi,h⟩:=Ae h
 refine cD 1 [(2,fm (AZ _ _ _ hi))] h (fun hc h=>?_) fun hc h=>?_
 refine yE h (fun f p1 hy h=>?_) fun e p2 hy h=>?_
 obtain⟨n_,hn_,h⟩:=Ae h
 cases h
 exact rt 2 [(1,fm (Ay _ _ (.ok f p1) hy)),(1,fm (AO _ _ hn_))] hQ
 cases h
 exact rp 1 [(1,LC (Ay _ _ (.pan e p2) hy))] hQ
 obtain⟨n_1,hn_1,h⟩:=Ae h
 cases h
 exact rt 1 [(1,fm (AO _ _ hn_1))] hQ
theorem Jn (p:(List Ap))(p1:Int)(n_:Int)(q:Int)(q1:Int)(q2:Æ)(q3:(List Ag))(q4:Int)(e:Int)(e1:Int)(e2:Æ)(e3:(List Ag))(e4:Int)(b:AJ)(r:Bool)(h:EA p p1 n_ q q1 q2 q3 q4 e e1 e2 e3 e4 b=some r):J1 Tryz.prog 175 [.agg [tP b.sign,iP b.op,iP b.level],.ptr 2 0,.ptr 1 0] [[hT p,iP p1],[.ptr 0 0],[iP n_],[iP q,iP q1,tP q2,oX q3,iP q4],[iP e,iP e1,tP e2,hX e3,iP e4]] (.ret (bP r)) [[hT p,iP p1],[.ptr 0 0],[iP n_],[iP q,iP q1,tP q2,oX q3,iP q4],[iP e,iP e1,tP e2,hX e3,iP e4]]:=by
 unfold EA at h
 refine vS ⟨[0,1,2,3,4],[]⟩ Tryz.func175 follows fun Q hQ=>?_
 refine mE 1 [] h (fun v4=>⟨[(4,bP v4)],[[hT p,iP p1],[.ptr 0 0],[iP n_],[iP q,iP q1,tP q2,oX q3,iP q4],[iP e,iP e1,tP e2,hX e3,iP e4],[tP b.sign,iP b.op,iP b.level]]⟩) ?_ fun y e5 hJ=>?_
 rintro v4 h
 cases h
 exact rt 0 [] hQ
 rcases Am e5 with⟨hc,e5⟩|⟨hc,e5⟩
 obtain⟨i,hi,e5⟩:=Ae e5
 exact mJ 1 [(4,fo hc),(3,fm (AZ _ _ _ hi))] (hJ _ (oj e5))
 exact mJ 1 [(4,fo hc)] (hJ _ (oj e5))
theorem HP (n:Nat)(p:(List Ap))(p1:Int)(n_:Int)(q:Int)(q1:Int)(q2:Æ)(q3:(List Ag))(q4:Int)(e:Int)(e1:Int)(e2:Æ)(e3:(List Ag))(e4:Int)(s:(List AJ))(r:Int)(h:Du n p p1 n_ q q1 q2 q3 q4 e e1 e2 e3 e4 s=some r):J1 Tryz.prog 173 [hE s,.fn 175 [.ptr 2 0,.ptr 1 0]] [[hT p,iP p1],[.ptr 0 0],[iP n_],[iP q,iP q1,tP q2,oX q3,iP q4],[iP e,iP e1,tP e2,hX e3,iP e4]] (.ret (iP r)) [[hT p,iP p1],[.ptr 0 0],[iP n_],[iP q,iP q1,tP q2,oX q3,iP q4],[iP e,iP e1,tP e2,hX e3,iP e4]]:=by
 unfold Du at h
 refine vS ⟨[0,1,4,5,7,8,9,16],[]⟩ Tryz.func173 follows fun Q hQ=>?_
 refine mI 2 [(2,fl EY s)] h (fun _=>⟨[(4,iP 0)],[[hT p,iP p1],[.ptr 0 0],[iP n_],[iP q,iP q1,tP q2,oX q3,iP q4],[iP e,iP e1,tP e2,hX e3,iP e4]]⟩) ?_ fun y e5 h hJ=>?_
 rintro _ h
 cases h
 exact rt 1 [] hQ
 refine lF 1 [] (A:=Int) (fun n v8=>Cb n s p p1 n_ q q1 q2 q3 q4 e e1 e2 e3 e4 v8) (fun v8=>⟨[(0,hE s),(1,.fn 175 [.ptr 2 0,.ptr 1 0]),(4,iP 0),(7,iP (s.length:Int)),(8,iP v8)],[[hT p,iP p1],[.ptr 0 0],[iP n_],[iP q,iP q1,tP q2,oX q3,iP q4],[iP e,iP e1,tP e2,hX e3,iP e4]]⟩) 0 e5 (fun _=>rfl) ?_
 rintro n v8 e5 ih
 replace e5:=(Cb.eq_2 ..).symm.trans e5
 refine cD 1 [] e5 (fun hc1 e5=>?_) fun hc1 e5=>?_
 obtain⟨x,hx,e5⟩:=Ae e5
 obtain⟨l,hl,e5⟩:=Ae e5
 refine cD 3 [(5,fi EY hx),(1,fs (Jn _ _ _ _ _ _ _ _ _ _ _ _ _ _ _ hl))] e5 (fun hc e5=>?_) fun hc e5=>?_
 cases e5
 cases h
 exact rt 1 [] hQ
 exact mJ 1 [] (ih _ e5)
 exact mJ 1 [] (hJ _ (oj e5))
theorem Li (n0:Nat)
 (ih_parse_parser_expr:∀ m,m<=n0->∀ (p:Ad) (depth:Int) (r:(Ex Ao Ad Ag)),AP m p depth=some r->K5 r (fun v0 s0=>D9 Tryz.prog 146 [iP depth] [hT p.l,iP p.forms] (.ret (.agg [iP v0.Op,iP v0.N,tP v0.S,hX v0.Kids,iP v0.At])) [hT s0.l,iP s0.forms]) (fun e0 s0=>D9 Tryz.prog 146 [iP depth] [hT p.l,iP p.forms] (.pan [{ v:=.iface 188 (.agg #[(.int .i64 e0.At),(.int .i64 e0.E)]),recovered:=false }]) [hT s0.l,iP s0.forms]))
 (ih_parse_parser_level:∀ m,m<=n0->∀ (p:Ad) (n_:Int) (depth:Int) (r:(Ex Ao Ad Ag)),Bc m p n_ depth=some r->K5 r (fun v0 s0=>D9 Tryz.prog 163 [iP n_,iP depth] [hT p.l,iP p.forms] (.ret (.agg [iP v0.Op,iP v0.N,tP v0.S,hX v0.Kids,iP v0.At])) [hT s0.l,iP s0.forms]) (fun e0 s0=>D9 Tryz.prog 163 [iP n_,iP depth] [hT p.l,iP p.forms] (.pan [{ v:=.iface 188 (.agg #[(.int .i64 e0.At),(.int .i64 e0.E)]),recovered:=false }]) [hT s0.l,iP s0.forms]))
 (ih_parse_parser_neg:∀ m,m<=n0->∀ (p:Ad) (depth:Int) (r:(Ex Ao Ad Ag)),B7 m p depth=some r->K5 r (fun v0 s0=>D9 Tryz.prog 172 [iP depth] [hT p.l,iP p.forms] (.ret (.agg [iP v0.Op,iP v0.N,tP v0.S,hX v0.Kids,iP v0.At])) [hT s0.l,iP s0.forms]) (fun e0 s0=>D9 Tryz.prog 172 [iP depth] [hT p.l,iP p.forms] (.pan [{ v:=.iface 188 (.agg #[(.int .i64 e0.At),(.int .i64 e0.E)]),recovered:=false }]) [hT s0.l,iP s0.forms]))
 (ih_parse_parser_atom:∀ m,m<=n0->∀ (p:Ad) (depth:Int) (r:(Ex Ao Ad Ag)),B9 m p depth=some r->K5 r (fun v0 s0=>D9 Tryz.prog 183 [iP depth] [hT p.l,iP p.forms] (.ret (.agg [iP v0.Op,iP v0.N,tP v0.S,hX v0.Kids,iP v0.At])) [hT s0.l,iP s0.forms]) (fun e0 s0=>D9 Tryz.prog 183 [iP depth] [hT p.l,iP p.forms] (.pan [{ v:=.iface 188 (.agg #[(.int .i64 e0.At),(.int .i64 e0.E)]),recovered:=false }]) [hT s0.l,iP s0.forms]))
 (n:Nat) (hn:n<=n0) (p:Ad) (depth:Int) (r:(Ex Ao Ad Ag)) (h:AP (n+1) p depth=some r):K5 r (fun v0 s0=>D9 Tryz.prog 146 [iP depth] [hT p.l,iP p.forms] (.ret (.agg [iP v0.Op,iP v0.N,tP v0.S,hX v0.Kids,iP v0.At])) [hT s0.l,iP s0.forms]) (fun e0 s0=>D9 Tryz.prog 146 [iP depth] [hT p.l,iP p.forms] (.pan [{ v:=.iface 188 (.agg #[(.int .i64 e0.At),(.int .i64 e0.E)]),recovered:=false }]) [hT s0.l,iP s0.forms]):=by
 replace h:=(AP.eq_2 ..).symm.trans h
 refine vMx ⟨[0,1,4,5,6,15],[(8,[9999,1,0,0,1,2,3,4,5,6,7,8,9,10])]⟩ Tryz.func146 follows fun Q hQ=>?_
 refine wl 1 [] ?_
 refine yE h (fun d p1 hy h=>?_) fun e p2 hy h=>?_
 refine wl 1 [(2,fm (BW _ _ _ (.ok d p1) hy))] ?_
 refine yE h (fun e1 p3 hy1 h=>?_) fun e2 p4 hy1 h=>?_
 obtain⟨i,hi,h⟩:=Ae h
 refine cD 2 [(2,fm (ih_parse_parser_level _ hn _ _ _ (.ok e1 p3) hy1)),(3,fm (AZ _ _ _ hi))] h (fun hc h=>?_) fun hc h=>?_
 cases h
 exact rt 1 [] hQ
 obtain⟨n_,hn_,h⟩:=Ae h
 refine wl 1 [(1,fm (AO _ _ hn_))] ?_
 refine yE h (fun a_ p5 hy2 h=>?_) fun e3 p6 hy2 h=>?_
 refine wl 1 [(3,fm (ih_parse_parser_expr _ hn _ _ (.ok a_ p5) hy2))] ?_
 refine yE h (fun n_1 p7 hy3 h=>?_) fun e4 p8 hy3 h=>?_
 refine wl 1 [(1,fm (BV _ _ (.ok n_1 p7) hy3))] ?_
 refine yE h (fun e5 p9 hy4 h=>?_) fun e6 p10 hy4 h=>?_
 obtain⟨l,hl,h⟩:=Ae h
 cases h
 exact rt 1 [(7,fm (ih_parse_parser_expr _ hn _ _ (.ok e5 p9) hy4)),(0,fB B3 hl)] hQ
 cases h
 exact rp 1 [(7,LC (ih_parse_parser_expr _ hn _ _ (.pan e6 p10) hy4))] hQ
 cases h
 exact rp 1 [(1,LC (BV _ _ (.pan e4 p8) hy3))] hQ
 cases h
 exact rp 1 [(3,LC (ih_parse_parser_expr _ hn _ _ (.pan e3 p6) hy2))] hQ
 cases h
 exact rp 1 [(2,LC (ih_parse_parser_level _ hn _ _ _ (.pan e2 p4) hy1))] hQ
 cases h
 exact rp 1 [(2,LC (BW _ _ _ (.pan e p2) hy))] hQ
theorem KU (n0:Nat)
 (ih_parse_parser_expr:∀ m,m<=n0->∀ (p:Ad) (depth:Int) (r:(Ex Ao Ad Ag)),AP m p depth=some r->K5 r (fun v0 s0=>D9 Tryz.prog 146 [iP depth] [hT p.l,iP p.forms] (.ret (.agg [iP v0.Op,iP v0.N,tP v0.S,hX v0.Kids,iP v0.At])) [hT s0.l,iP s0.forms]) (fun e0 s0=>D9 Tryz.prog 146 [iP depth] [hT p.l,iP p.forms] (.pan [{ v:=.iface 188 (.agg #[(.int .i64 e0.At),(.int .i64 e0.E)]),recovered:=false }]) [hT s0.l,iP s0.forms]))
 (ih_parse_parser_level:∀ m,m<=n0->∀ (p:Ad) (n_:Int) (depth:Int) (r:(Ex Ao Ad Ag)),Bc m p n_ depth=some r->K5 r (fun v0 s0=>D9 Tryz.prog 163 [iP n_,iP depth] [hT p.l,iP p.forms] (.ret (.agg [iP v0.Op,iP v0.N,tP v0.S,hX v0.Kids,iP v0.At])) [hT s0.l,iP s0.forms]) (fun e0 s0=>D9 Tryz.prog 163 [iP n_,iP depth] [hT p.l,iP p.forms] (.pan [{ v:=.iface 188 (.agg #[(.int .i64 e0.At),(.int .i64 e0.E)]),recovered:=false }]) [hT s0.l,iP s0.forms]))
 (ih_parse_parser_neg:∀ m,m<=n0->∀ (p:Ad) (depth:Int) (r:(Ex Ao Ad Ag)),B7 m p depth=some r->K5 r (fun v0 s0=>D9 Tryz.prog 172 [iP depth] [hT p.l,iP p.forms] (.ret (.agg [iP v0.Op,iP v0.N,tP v0.S,hX v0.Kids,iP v0.At])) [hT s0.l,iP s0.forms]) (fun e0 s0=>D9 Tryz.prog 172 [iP depth] [hT p.l,iP p.forms] (.pan [{ v:=.iface 188 (.agg #[(.int .i64 e0.At),(.int .i64 e0.E)]),recovered:=false }]) [hT s0.l,iP s0.forms]))
 (ih_parse_parser_atom:∀ m,m<=n0->∀ (p:Ad) (depth:Int) (r:(Ex Ao Ad Ag)),B9 m p depth=some r->K5 r (fun v0 s0=>D9 Tryz.prog 183 [iP depth] [hT p.l,iP p.forms] (.ret (.agg [iP v0.Op,iP v0.N,tP v0.S,hX v0.Kids,iP v0.At])) [hT s0.l,iP s0.forms]) (fun e0 s0=>D9 Tryz.prog 183 [iP depth] [hT p.l,iP p.forms] (.pan [{ v:=.iface 188 (.agg #[(.int .i64 e0.At),(.int .i64 e0.E)]),recovered:=false }]) [hT s0.l,iP s0.forms]))
 (n:Nat) (hn:n<=n0) (p:Ad) (n_:Int) (depth:Int) (r:(Ex Ao Ad Ag)) (h:Bc (n+1) p n_ depth=some r):K5 r (fun v0 s0=>D9 Tryz.prog 163 [iP n_,iP depth] [hT p.l,iP p.forms] (.ret (.agg [iP v0.Op,iP v0.N,tP v0.S,hX v0.Kids,iP v0.At])) [hT s0.l,iP s0.forms]) (fun e0 s0=>D9 Tryz.prog 163 [iP n_,iP depth] [hT p.l,iP p.forms] (.pan [{ v:=.iface 188 (.agg #[(.int .i64 e0.At),(.int .i64 e0.E)]),recovered:=false }]) [hT s0.l,iP s0.forms]):=by
 replace h:=(Bc.eq_2 ..).symm.trans h
 refine vMx ⟨[0,1,2,3,4,6,7,8,9,11,13,31,44,64],[(14,[9999,1,0,1,5,6,7,8,9,10,11,0,2,3,4,12,13,14,15])]⟩ Tryz.func163 follows fun Q hQ=>?_
 refine mI 2 [] h (fun n_1=>⟨[(2,iP depth),(3,.ptr 1 0),(4,.ptr 2 0),(6,.ptr 3 0)],[[hT p.l,iP p.forms],[.ptr 0 0],[iP n_1],[iP 0,iP 0,tP ⟨#[]⟩,.sl [] .own,iP 0]]⟩) ?_ fun y e h hJ=>?_
 rintro n_1 h
 refine cD 1 [] h (fun hc2 h=>?_) fun hc2 h=>?_
 refine yE h (fun n_2 p1 hy1 h=>?_) fun e1 p2 hy1 h=>?_
 cases h
 exact rt 1 [(2,fm (ih_parse_parser_neg _ hn _ _ (.ok n_2 p1) hy1))] hQ
 cases h
 exact rp 1 [(2,LC (ih_parse_parser_neg _ hn _ _ (.pan e1 p2) hy1))] hQ
 refine yE h (fun e2 p3 hy2 h=>?_) fun e3 p4 hy2 h=>?_
 refine lR 2 [(4,fm (ih_parse_parser_level _ hn _ _ _ (.ok e2 p3) hy2))] (A:=((List Ap)×Int×Int×Int×ByteArray×(List Ag))) (fun n (p5,p6,e4,e5,e6,e7)=>DK n n_1 e2 depth p5 p6 e4 e5 e6 e7) (fun (p5,p6,e4,e5,e6,e7)=>⟨[(2,iP depth),(3,.ptr 1 0),(4,.ptr 2 0),(6,.ptr 3 0),(8,.ptr 4 0)],[[hT p5,iP p6],[.ptr 0 0],[iP n_1],[iP 0,iP 0,tP ⟨#[]⟩,.sl [] .own,iP 0],[iP e4,iP e5,tP e6,hX e7,iP e2.At]]⟩) (p3.l,p3.forms,e2.Op,e2.N,e2.S,e2.Kids) hn h (fun _=>rfl) ?_
 rintro n ⟨p5,p6,e4,e5,e6,e7⟩ hn h ih
 replace h:=(DK.eq_2 ..).symm.trans h
 obtain⟨o_,ho_,h⟩:=Ae h
 obtain⟨k,hk,h⟩:=Ae h
 refine cD 3 [(0,fk (Hq _ ho_)),(1,fs (HP _ _ _ _ _ _ _ _ _ _ _ _ _ _ _ _ hk))] h (fun hc1 h=>?_) fun hc1 h=>?_
 cases h
 exact rt 1 [] hQ
 obtain⟨n_3,hn_3,h⟩:=Ae h
 obtain⟨o_1,ho_1,h⟩:=Ae h
 obtain⟨x,hx,h⟩:=Ae h
 refine wl 1 [(1,fm (AO _ _ hn_3))] ?_
 refine yE h (fun l p7 hy3 h=>?_) fun e8 p8 hy3 h=>?_
 obtain⟨l1,hl1,h⟩:=Ae h
 refine cD 2 [(8,fk (Hq _ ho_1)),(0,fi EY hx),(2,fm (ih_parse_parser_level _ hn _ _ _ (.ok l p7) hy3)),(0,fB B3 hl1)] h (fun hc h=>?_) fun hc h=>?_
 cases h
 exact rt 1 [] hQ
 exact mJ 0 [] (ih (_,_,_,_,_,_) h)
 cases h
 exact rp 1 [(8,fk (Hq _ ho_1)),(0,fi EY hx),(2,LC (ih_parse_parser_level _ hn _ _ _ (.pan e8 p8) hy3))] hQ
 cases h
 exact rp 1 [(4,LC (ih_parse_parser_level _ hn _ _ _ (.pan e3 p4) hy2))] hQ
 refine cD 0 [] e (fun hc4 e=>?_) fun hc4 e=>?_
 obtain⟨i,hi,e⟩:=Ae e
 refine cD 1 [(1,fm (AZ _ _ _ hi))] e (fun hc3 e=>?_) fun hc3 e=>?_
 obtain⟨n_4,hn_4,e⟩:=Ae e
 refine wl 1 [(1,fm (AO _ _ hn_4))] ?_
 refine yE e (fun d p9 hy4 e=>?_) fun e9 p10 hy4 e=>?_
 refine wl 1 [(3,fm (BW _ _ _ (.ok d p9) hy4))] ?_
 refine yE e (fun l2 p11 hy5 e=>?_) fun e10 p12 hy5 e=>?_
 obtain⟨l3,hl3,e⟩:=Ae e
 cases e
 cases h
 exact rt 1 [(4,fm (ih_parse_parser_level _ hn _ _ _ (.ok l2 p11) hy5)),(0,fB B3 hl3)] hQ
 cases e
 cases h
 exact rp 1 [(4,LC (ih_parse_parser_level _ hn _ _ _ (.pan e10 p12) hy5))] hQ
 cases e
 cases h
 exact rp 1 [(3,LC (BW _ _ _ (.pan e9 p10) hy4))] hQ
 exact mJ 1 [] (hJ _ (oj e))
 exact mJ 0 [] (hJ _ (oj e))
theorem Mm (n0:Nat)
 (ih_parse_parser_expr:∀ m,m<=n0->∀ (p:Ad) (depth:Int) (r:(Ex Ao Ad Ag)),AP m p depth=some r->K5 r (fun v0 s0=>D9 Tryz.prog 146 [iP depth] [hT p.l,iP p.forms] (.ret (.agg [iP v0.Op,iP v0.N,tP v0.S,hX v0.Kids,iP v0.At])) [hT s0.l,iP s0.forms]) (fun e0 s0=>D9 Tryz.prog 146 [iP depth] [hT p.l,iP p.forms] (.pan [{ v:=.iface 188 (.agg #[(.int .i64 e0.At),(.int .i64 e0.E)]),recovered:=false }]) [hT s0.l,iP s0.forms]))
 (ih_parse_parser_level:∀ m,m<=n0->∀ (p:Ad) (n_:Int) (depth:Int) (r:(Ex Ao Ad Ag)),Bc m p n_ depth=some r->K5 r (fun v0 s0=>D9 Tryz.prog 163 [iP n_,iP depth] [hT p.l,iP p.forms] (.ret (.agg [iP v0.Op,iP v0.N,tP v0.S,hX v0.Kids,iP v0.At])) [hT s0.l,iP s0.forms]) (fun e0 s0=>D9 Tryz.prog 163 [iP n_,iP depth] [hT p.l,iP p.forms] (.pan [{ v:=.iface 188 (.agg #[(.int .i64 e0.At),(.int .i64 e0.E)]),recovered:=false }]) [hT s0.l,iP s0.forms]))
 (ih_parse_parser_neg:∀ m,m<=n0->∀ (p:Ad) (depth:Int) (r:(Ex Ao Ad Ag)),B7 m p depth=some r->K5 r (fun v0 s0=>D9 Tryz.prog 172 [iP depth] [hT p.l,iP p.forms] (.ret (.agg [iP v0.Op,iP v0.N,tP v0.S,hX v0.Kids,iP v0.At])) [hT s0.l,iP s0.forms]) (fun e0 s0=>D9 Tryz.prog 172 [iP depth] [hT p.l,iP p.forms] (.pan [{ v:=.iface 188 (.agg #[(.int .i64 e0.At),(.int .i64 e0.E)]),recovered:=false }]) [hT s0.l,iP s0.forms]))
 (ih_parse_parser_atom:∀ m,m<=n0->∀ (p:Ad) (depth:Int) (r:(Ex Ao Ad Ag)),B9 m p depth=some r->K5 r (fun v0 s0=>D9 Tryz.prog 183 [iP depth] [hT p.l,iP p.forms] (.ret (.agg [iP v0.Op,iP v0.N,tP v0.S,hX v0.Kids,iP v0.At])) [hT s0.l,iP s0.forms]) (fun e0 s0=>D9 Tryz.prog 183 [iP depth] [hT p.l,iP p.forms] (.pan [{ v:=.iface 188 (.agg #[(.int .i64 e0.At),(.int .i64 e0.E)]),recovered:=false }]) [hT s0.l,iP s0.forms]))
 (n:Nat) (hn:n<=n0) (p:Ad) (depth:Int) (r:(Ex Ao Ad Ag)) (h:B7 (n+1) p depth=some r):K5 r (fun v0 s0=>D9 Tryz.prog 172 [iP depth] [hT p.l,iP p.forms] (.ret (.agg [iP v0.Op,iP v0.N,tP v0.S,hX v0.Kids,iP v0.At])) [hT s0.l,iP s0.forms]) (fun e0 s0=>D9 Tryz.prog 172 [iP depth] [hT p.l,iP p.forms] (.pan [{ v:=.iface 188 (.agg #[(.int .i64 e0.At),(.int .i64 e0.E)]),recovered:=false }]) [hT s0.l,iP s0.forms]):=by
 replace h:=(B7.eq_2 ..).symm.trans h
 refine vMx ⟨[0,1,4,5,8],[]⟩ Tryz.func172 follows fun Q hQ=>?_
 obtain⟨i,hi,h⟩:=Ae h
 refine cD 2 [(2,fm (AZ _ _ _ hi))] h (fun hc h=>?_) fun hc h=>?_
 refine yE h (fun a_ p1 hy h=>?_) fun e p2 hy h=>?_
 cases h
 exact rt 1 [(2,fm (ih_parse_parser_atom _ hn _ _ (.ok a_ p1) hy))] hQ
 cases h
 exact rp 1 [(2,LC (ih_parse_parser_atom _ hn _ _ (.pan e p2) hy))] hQ
 obtain⟨n_,hn_,h⟩:=Ae h
 refine wl 1 [(1,fm (AO _ _ hn_))] ?_
 refine yE h (fun d p3 hy1 h=>?_) fun e1 p4 hy1 h=>?_
 refine wl 1 [(3,fm (BW _ _ _ (.ok d p3) hy1))] ?_
 refine yE h (fun n_1 p5 hy2 h=>?_) fun e2 p6 hy2 h=>?_
 obtain⟨l,hl,h⟩:=Ae h
 cases h
 exact rt 1 [(4,fm (ih_parse_parser_neg _ hn _ _ (.ok n_1 p5) hy2)),(0,fB B3 hl)] hQ
 cases h
 exact rp 1 [(4,LC (ih_parse_parser_neg _ hn _ _ (.pan e2 p6) hy2))] hQ
 cases h
 exact rp 1 [(3,LC (BW _ _ _ (.pan e1 p4) hy1))] hQ
theorem Lj (n0:Nat)
 (ih_parse_parser_expr:∀ m,m<=n0->∀ (p:Ad) (depth:Int) (r:(Ex Ao Ad Ag)),AP m p depth=some r->K5 r (fun v0 s0=>D9 Tryz.prog 146 [iP depth] [hT p.l,iP p.forms] (.ret (.agg [iP v0.Op,iP v0.N,tP v0.S,hX v0.Kids,iP v0.At])) [hT s0.l,iP s0.forms]) (fun e0 s0=>D9 Tryz.prog 146 [iP depth] [hT p.l,iP p.forms] (.pan [{ v:=.iface 188 (.agg #[(.int .i64 e0.At),(.int .i64 e0.E)]),recovered:=false }]) [hT s0.l,iP s0.forms]))
 (ih_parse_parser_level:∀ m,m<=n0->∀ (p:Ad) (n_:Int) (depth:Int) (r:(Ex Ao Ad Ag)),Bc m p n_ depth=some r->K5 r (fun v0 s0=>D9 Tryz.prog 163 [iP n_,iP depth] [hT p.l,iP p.forms] (.ret (.agg [iP v0.Op,iP v0.N,tP v0.S,hX v0.Kids,iP v0.At])) [hT s0.l,iP s0.forms]) (fun e0 s0=>D9 Tryz.prog 163 [iP n_,iP depth] [hT p.l,iP p.forms] (.pan [{ v:=.iface 188 (.agg #[(.int .i64 e0.At),(.int .i64 e0.E)]),recovered:=false }]) [hT s0.l,iP s0.forms]))
 (ih_parse_parser_neg:∀ m,m<=n0->∀ (p:Ad) (depth:Int) (r:(Ex Ao Ad Ag)),B7 m p depth=some r->K5 r (fun v0 s0=>D9 Tryz.prog 172 [iP depth] [hT p.l,iP p.forms] (.ret (.agg [iP v0.Op,iP v0.N,tP v0.S,hX v0.Kids,iP v0.At])) [hT s0.l,iP s0.forms]) (fun e0 s0=>D9 Tryz.prog 172 [iP depth] [hT p.l,iP p.forms] (.pan [{ v:=.iface 188 (.agg #[(.int .i64 e0.At),(.int .i64 e0.E)]),recovered:=false }]) [hT s0.l,iP s0.forms]))
 (ih_parse_parser_atom:∀ m,m<=n0->∀ (p:Ad) (depth:Int) (r:(Ex Ao Ad Ag)),B9 m p depth=some r->K5 r (fun v0 s0=>D9 Tryz.prog 183 [iP depth] [hT p.l,iP p.forms] (.ret (.agg [iP v0.Op,iP v0.N,tP v0.S,hX v0.Kids,iP v0.At])) [hT s0.l,iP s0.forms]) (fun e0 s0=>D9 Tryz.prog 183 [iP depth] [hT p.l,iP p.forms] (.pan [{ v:=.iface 188 (.agg #[(.int .i64 e0.At),(.int .i64 e0.E)]),recovered:=false }]) [hT s0.l,iP s0.forms]))
 (n:Nat) (hn:n<=n0) (p:Ad) (depth:Int) (r:(Ex Ao Ad Ag)) (h:B9 (n+1) p depth=some r):K5 r (fun v0 s0=>D9 Tryz.prog 183 [iP depth] [hT p.l,iP p.forms] (.ret (.agg [iP v0.Op,iP v0.N,tP v0.S,hX v0.Kids,iP v0.At])) [hT s0.l,iP s0.forms]) (fun e0 s0=>D9 Tryz.prog 183 [iP depth] [hT p.l,iP p.forms] (.pan [{ v:=.iface 188 (.agg #[(.int .i64 e0.At),(.int .i64 e0.E)]),recovered:=false }]) [hT s0.l,iP s0.forms]):=by
 replace h:=(B9.eq_2 ..).symm.trans h
 refine vMx ⟨[0,1,4,5,6,9,22,29,32,35,40,46,50,56],[(23,[9999,1,0,0,1,2,3,4,5,6,7,8,9])]⟩ Tryz.func183 follows fun Q hQ=>?_
 obtain⟨b,hb,h⟩:=Ae h
 refine mI 2 [(2,fm (Cy _ _ hb))] h (fun (p1,p2)=>⟨[(0,.ptr 0 0),(1,iP depth),(4,.ptr 1 0)],[[hT p1,iP p2],[iP 0,iP 0,tP ⟨#[]⟩,.sl [] .own,iP 0]]⟩) ?_ fun y e h hJ=>?_
 rintro⟨p1,p2⟩ h
 obtain⟨t,ht,h⟩:=Ae h
 refine cD 5 [(1,fm (AO _ _ ht))] h (fun hc6 h=>?_) fun hc6 h=>?_
 cases h
 exact rt 2 [] hQ
 refine cD 1 [] h (fun hc5 h=>?_) fun hc5 h=>?_
 cases h
 exact rt 2 [] hQ
 refine cD 1 [] h (fun hc4 h=>?_) fun hc4 h=>?_
 obtain⟨i,hi,h⟩:=Ae h
 refine cD 2 [(3,fm (AZ _ _ _ hi))] h (fun hc3 h=>?_) fun hc3 h=>?_
 cases h
 exact rt 2 [] hQ
 obtain⟨n_,hn_,h⟩:=Ae h
 refine mI 2 [(3,fm (AO _ _ hn_))] h (fun (p3,p4,e1)=>⟨[(0,.ptr 0 0),(4,.ptr 1 0),(6,.ptr 3 0)],[[hT p3,iP p4],[iP 0,iP 0,tP ⟨#[]⟩,.sl [] .own,iP 0],[iP t.1.Kind,iP t.1.At,tP t.1.S,iP t.1.N],[iP 4,iP t.1.N,tP t.1.S,oX e1,iP t.1.At]]⟩) ?_ fun y1 e2 h hJ1=>?_
 rintro⟨p3,p4,e1⟩ h
 obtain⟨n_1,hn_1,h⟩:=Ae h
 cases h
 exact rt 2 [(1,fm (AO _ _ hn_1))] hQ
 refine lR 1 [] (A:=((List Ap)×Int×(List Ag))) (fun n (p5,p6,e3)=>CV n depth p5 p6 e3) (fun (p5,p6,e3)=>⟨[(0,.ptr 0 0),(1,iP depth),(4,.ptr 1 0),(6,.ptr 3 0)],[[hT p5,iP p6],[iP 0,iP 0,tP ⟨#[]⟩,.sl [] .own,iP 0],[iP t.1.Kind,iP t.1.At,tP t.1.S,iP t.1.N],[iP 4,iP t.1.N,tP t.1.S,oX e3,iP t.1.At]]⟩) (n_.2.l,n_.2.forms,[]) hn e2 (fun _=>rfl) ?_
 rintro n ⟨p5,p6,e3⟩ hn e2 ih
 replace e2:=(CV.eq_2 ..).symm.trans e2
 obtain⟨i1,hi1,e2⟩:=Ae e2
 refine cD 1 [(1,fm (AZ _ _ _ hi1))] e2 (fun hc2 e2=>?_) fun hc2 e2=>?_
 refine mI 2 [(2,fl B3 e3)] e2 (fun (p7,p8)=>⟨[(0,.ptr 0 0),(1,iP depth),(4,.ptr 1 0),(6,.ptr 3 0)],[[hT p7,iP p8],[iP 0,iP 0,tP ⟨#[]⟩,.sl [] .own,iP 0],[iP t.1.Kind,iP t.1.At,tP t.1.S,iP t.1.N],[iP 4,iP t.1.N,tP t.1.S,oX e3,iP t.1.At]]⟩) ?_ fun y2 e4 e2 hJ2=>?_
 rintro⟨p7,p8⟩ e2
 refine cD 1 [(2,fl B3 e3)] e2 (fun hc e2=>?_) fun hc e2=>?_
 refine yE e2 (fun d p9 hy3 e2=>?_) fun e5 p10 hy3 e2=>?_
 refine wl 1 [(1,fm (BW _ _ _ (.ok d p9) hy3))] ?_
 refine yE e2 (fun f p11 hy4 e2=>?_) fun e6 p12 hy4 e2=>?_
 refine wl 1 [(1,fm (Ay _ _ (.ok f p11) hy4))] ?_
 refine yE e2 (fun e7 p13 hy5 e2=>?_) fun e8 p14 hy5 e2=>?_
 obtain⟨l,hl,e2⟩:=Ae e2
 obtain⟨l1,hl1,e2⟩:=Ae e2
 exact mJ 1 [(5,fm (ih_parse_parser_expr _ hn _ _ (.ok e7 p13) hy5)),(0,fB B3 hl),(0,fa B3 hl1)] (ih (_,_,_) e2)
 cases e2
 cases h
 exact rp 1 [(5,LC (ih_parse_parser_expr _ hn _ _ (.pan e8 p14) hy5))] hQ
 cases e2
 cases h
 exact rp 1 [(1,LC (Ay _ _ (.pan e6 p12) hy4))] hQ
 cases e2
 cases h
 exact rp 1 [(1,LC (BW _ _ _ (.pan e5 p10) hy3))] hQ
 refine yE e2 (fun e9 p15 hy6 e2=>?_) fun e10 p16 hy6 e2=>?_
 obtain⟨l2,hl2,e2⟩:=Ae e2
 obtain⟨l3,hl3,e2⟩:=Ae e2
 exact mJ 1 [(5,fm (ih_parse_parser_expr _ hn _ _ (.ok e9 p15) hy6)),(0,fB B3 hl2),(0,fa B3 hl3)] (ih (_,_,_) e2)
 cases e2
 cases h
 exact rp 1 [(5,LC (ih_parse_parser_expr _ hn _ _ (.pan e10 p16) hy6))] hQ
 refine cD 0 [] e4 (fun hc1 e4=>?_) fun hc1 e4=>?_
 refine yE e4 (fun n_2 p17 hy7 e4=>?_) fun e11 p18 hy7 e4=>?_
 exact mJ 1 [(1,fm (BV _ _ (.ok n_2 p17) hy7))] (hJ2 _ (oj e4))
 cases e4
 cases e2
 cases h
 exact rp 1 [(1,LC (BV _ _ (.pan e11 p18) hy7))] hQ
 exact mJ 0 [] (hJ2 _ (oj e4))
 exact mJ 1 [] (hJ1 _ (oj e2))
 refine yE h (fun e12 p19 hy8 h=>?_) fun e13 p20 hy8 h=>?_
 refine wl 1 [(3,fm (ih_parse_parser_expr _ hn _ _ (.ok e12 p19) hy8))] ?_
 refine yE h (fun n_3 p21 hy9 h=>?_) fun e14 p22 hy9 h=>?_
 cases h
 exact rt 2 [(1,fm (BV _ _ (.ok n_3 p21) hy9))] hQ
 cases h
 exact rp 1 [(1,LC (BV _ _ (.pan e14 p22) hy9))] hQ
 cases h
 exact rp 1 [(3,LC (ih_parse_parser_expr _ hn _ _ (.pan e13 p20) hy8))] hQ
 refine cD 0 [] e (fun hc7 e=>?_) fun hc7 e=>?_
 refine yE e (fun f1 p23 hy10 e=>?_) fun e15 p24 hy10 e=>?_
 exact mJ 1 [(1,fm (Ay _ _ (.ok f1 p23) hy10))] (hJ _ (oj e))
 cases e
 cases h
 exact rp 1 [(1,LC (Ay _ _ (.pan e15 p24) hy10))] hQ
 exact mJ 0 [] (hJ _ (oj e))
theorem Hm:∀ n:Nat,(∀ m,m<=n->∀ (p:Ad) (depth:Int) (r:(Ex Ao Ad Ag)),AP m p depth=some r->K5 r (fun v0 s0=>D9 Tryz.prog 146 [iP depth] [hT p.l,iP p.forms] (.ret (.agg [iP v0.Op,iP v0.N,tP v0.S,hX v0.Kids,iP v0.At])) [hT s0.l,iP s0.forms]) (fun e0 s0=>D9 Tryz.prog 146 [iP depth] [hT p.l,iP p.forms] (.pan [{ v:=.iface 188 (.agg #[(.int .i64 e0.At),(.int .i64 e0.E)]),recovered:=false }]) [hT s0.l,iP s0.forms]))/\(∀ m,m<=n->∀ (p:Ad) (n_:Int) (depth:Int) (r:(Ex Ao Ad Ag)),Bc m p n_ depth=some r->K5 r (fun v0 s0=>D9 Tryz.prog 163 [iP n_,iP depth] [hT p.l,iP p.forms] (.ret (.agg [iP v0.Op,iP v0.N,tP v0.S,hX v0.Kids,iP v0.At])) [hT s0.l,iP s0.forms]) (fun e0 s0=>D9 Tryz.prog 163 [iP n_,iP depth] [hT p.l,iP p.forms] (.pan [{ v:=.iface 188 (.agg #[(.int .i64 e0.At),(.int .i64 e0.E)]),recovered:=false }]) [hT s0.l,iP s0.forms]))/\(∀ m,m<=n->∀ (p:Ad) (depth:Int) (r:(Ex Ao Ad Ag)),B7 m p depth=some r->K5 r (fun v0 s0=>D9 Tryz.prog 172 [iP depth] [hT p.l,iP p.forms] (.ret (.agg [iP v0.Op,iP v0.N,tP v0.S,hX v0.Kids,iP v0.At])) [hT s0.l,iP s0.forms]) (fun e0 s0=>D9 Tryz.prog 172 [iP depth] [hT p.l,iP p.forms] (.pan [{ v:=.iface 188 (.agg #[(.int .i64 e0.At),(.int .i64 e0.E)]),recovered:=false }]) [hT s0.l,iP s0.forms]))/\(∀ m,m<=n->∀ (p:Ad) (depth:Int) (r:(Ex Ao Ad Ag)),B9 m p depth=some r->K5 r (fun v0 s0=>D9 Tryz.prog 183 [iP depth] [hT p.l,iP p.forms] (.ret (.agg [iP v0.Op,iP v0.N,tP v0.S,hX v0.Kids,iP v0.At])) [hT s0.l,iP s0.forms]) (fun e0 s0=>D9 Tryz.prog 183 [iP depth] [hT p.l,iP p.forms] (.pan [{ v:=.iface 188 (.agg #[(.int .i64 e0.At),(.int .i64 e0.E)]),recovered:=false }]) [hT s0.l,iP s0.forms]))
 |0=>⟨(fun m hm p depth r h=>by
  obtain rfl:m=0:=by omega
  exact absurd h (by simp [AP])),
  (fun m hm p n_ depth r h=>by
   obtain rfl:m=0:=by omega
   exact absurd h (by simp [Bc])),
  (fun m hm p depth r h=>by
   obtain rfl:m=0:=by omega
   exact absurd h (by simp [B7])),
  (fun m hm p depth r h=>by
   obtain rfl:m=0:=by omega
   exact absurd h (by simp [B9]))⟩
 |n+1=>by
  have ih:=Hm n
  exact⟨fun m hm p depth r h=>by
   cases m with
   |zero=>exact absurd h (by simp [AP])
   |succ m=>exact Li n (ih.1) (ih.2.1) (ih.2.2.1) (ih.2.2.2) m (by omega) p depth _ h,
  fun m hm p n_ depth r h=>by
   cases m with
   |zero=>exact absurd h (by simp [Bc])
   |succ m=>exact KU n (ih.1) (ih.2.1) (ih.2.2.1) (ih.2.2.2) m (by omega) p n_ depth _ h,
  fun m hm p depth r h=>by
   cases m with
   |zero=>exact absurd h (by simp [B7])
   |succ m=>exact Mm n (ih.1) (ih.2.1) (ih.2.2.1) (ih.2.2.2) m (by omega) p depth _ h,
  fun m hm p depth r h=>by
   cases m with
   |zero=>exact absurd h (by simp [B9])
   |succ m=>exact Lj n (ih.1) (ih.2.1) (ih.2.2.1) (ih.2.2.2) m (by omega) p depth _ h⟩
theorem I2 (n:Nat)(p:Ad)(depth:Int)(r:(Ex Ao Ad Ag))(h:AP n p depth=some r):K5 r (fun v0 s0=>D9 Tryz.prog 146 [iP depth] [hT p.l,iP p.forms] (.ret (.agg [iP v0.Op,iP v0.N,tP v0.S,hX v0.Kids,iP v0.At])) [hT s0.l,iP s0.forms]) (fun e0 s0=>D9 Tryz.prog 146 [iP depth] [hT p.l,iP p.forms] (.pan [{ v:=.iface 188 (.agg #[(.int .i64 e0.At),(.int .i64 e0.E)]),recovered:=false }]) [hT s0.l,iP s0.forms]) :=
 (Hm n).1 n (à _) p depth r h
theorem F2 (n:Nat)(p:Ad)(r:(Ex Ao Ad BB))(h:FV n p=some r):K5 r (fun v0 s0=>D9 Tryz.prog 118 [] [hT p.l,iP p.forms] (.ret (.agg [iP v0.Kind,iP v0.N,tP v0.S,iP v0.E.Op,iP v0.E.N,tP v0.E.S,hX v0.E.Kids,iP v0.E.At,iP v0.At])) [hT s0.l,iP s0.forms]) (fun e0 s0=>D9 Tryz.prog 118 [] [hT p.l,iP p.forms] (.pan [{ v:=.iface 188 (.agg #[(.int .i64 e0.At),(.int .i64 e0.E)]),recovered:=false }]) [hT s0.l,iP s0.forms]):=by
 unfold FV at h
 refine vMx ⟨[0,2,3,4,15,18,19,26,29,37,40,43],[]⟩ Tryz.func118 follows fun Q hQ=>?_
 obtain⟨t,ht,h⟩:=Ae h
 refine cD 6 [(2,fm (AO _ _ ht))] h (fun hc5 h=>?_) fun hc5 h=>?_
 cases h
 exact rt 2 [] hQ
 refine cD 1 [] h (fun hc4 h=>?_) fun hc4 h=>?_
 cases h
 exact rt 2 [] hQ
 refine cD 1 [] h (fun hc3 h=>?_) fun hc3 h=>?_
 cases h
 exact rt 2 [] hQ
 refine cD 4 [] h (fun hc2 h=>?_) fun hc2 h=>?_
 refine yE h (fun n_ p1 hy h=>?_) fun e p2 hy h=>?_
 cases h
 exact rt 2 [(1,fm (HB _ (.ok n_ p1) hy))] hQ
 cases h
 exact rp 1 [(1,LC (HB _ (.pan e p2) hy))] hQ
 refine cD 1 [] h (fun hc1 h=>?_) fun hc1 h=>?_
 cases h
 exact rt 2 [] hQ
 refine cD 1 [] h (fun hc h=>?_) fun hc h=>?_
 refine yE h (fun e1 p3 hy1 h=>?_) fun e2 p4 hy1 h=>?_
 refine wl 1 [(1,fm (I2 _ _ _ (.ok e1 p3) hy1))] ?_
 refine yE h (fun n_1 p5 hy2 h=>?_) fun e3 p6 hy2 h=>?_
 cases h
 exact rt 2 [(1,fm (BV _ _ (.ok n_1 p5) hy2))] hQ
 cases h
 exact rp 1 [(1,LC (BV _ _ (.pan e3 p6) hy2))] hQ
 cases h
 exact rp 1 [(1,LC (I2 _ _ _ (.pan e2 p4) hy1))] hQ
 cases h
 exact rt 1 [] hQ
theorem Lh (n0:Nat)
 (ih_parse_parser_form:∀ m,m<=n0->∀ (p:Ad) (depth:Int) (r:(Ex Ao Ad Ax)),BT m p depth=some r->K5 r (fun v0 s0=>D9 Tryz.prog 70 [iP depth] [hT p.l,iP p.forms] (.ret (.agg [tP v0.Word,hA v0.Args,hF v0.Body,iP v0.At])) [hT s0.l,iP s0.forms]) (fun e0 s0=>D9 Tryz.prog 70 [iP depth] [hT p.l,iP p.forms] (.pan [{ v:=.iface 188 (.agg #[(.int .i64 e0.At),(.int .i64 e0.E)]),recovered:=false }]) [hT s0.l,iP s0.forms]))
 (n:Nat) (hn:n<=n0) (p:Ad) (depth:Int) (r:(Ex Ao Ad Ax)) (h:BT (n+1) p depth=some r):K5 r (fun v0 s0=>D9 Tryz.prog 70 [iP depth] [hT p.l,iP p.forms] (.ret (.agg [tP v0.Word,hA v0.Args,hF v0.Body,iP v0.At])) [hT s0.l,iP s0.forms]) (fun e0 s0=>D9 Tryz.prog 70 [iP depth] [hT p.l,iP p.forms] (.pan [{ v:=.iface 188 (.agg #[(.int .i64 e0.At),(.int .i64 e0.E)]),recovered:=false }]) [hT s0.l,iP s0.forms]):=by
 replace h:=(BT.eq_2 ..).symm.trans h
 refine vMx ⟨[0,1,4,5,6,14,32,49,57,63,76,80],[(13,[9999,1,0,0,1,2,3,4,5,6,7]),(17,[9999,1,0,0,1,2,3,4,5,6,7,8,9])]⟩ Tryz.func70 follows fun Q hQ=>?_
 obtain⟨x,hx,h⟩:=Ae h
 refine mI 2 [(5,fi Cp hx)] h (fun (p1,p2)=>⟨[(0,.ptr 0 0),(1,iP depth),(4,.ptr 1 0)],[[hT p1,iP p2],[tP ⟨#[]⟩,.sl [] .own,.sl [] .own,iP 0]]⟩) ?_ fun y e h hJ=>?_
 rintro⟨p1,p2⟩ h
 refine mE 1 [] h (fun v32=>⟨[(0,.ptr 0 0),(1,iP depth),(4,.ptr 1 0),(32,bP v32)],[[hT p1,iP (À (p2+1))],[tP ⟨#[]⟩,.sl [] .own,.sl [] .own,iP 0]]⟩) ?_ fun y1 e1 hJ1=>?_
 rintro v32 h
 refine mI 0 [] h (fun (p3,p4)=>⟨[(0,.ptr 0 0),(1,iP depth),(4,.ptr 1 0)],[[hT p3,iP p4],[tP ⟨#[]⟩,.sl [] .own,.sl [] .own,iP 0]]⟩) ?_ fun y2 e2 h hJ2=>?_
 rintro⟨p3,p4⟩ h
 obtain⟨t,ht,h⟩:=Ae h
 refine mI 2 [(1,fm (AO _ _ ht))] h (fun (p5,p6,f)=>⟨[(0,.ptr 0 0),(1,iP depth),(4,.ptr 1 0),(6,.ptr 3 0)],[[hT p5,iP p6],[tP ⟨#[]⟩,.sl [] .own,.sl [] .own,iP 0],[iP t.1.Kind,iP t.1.At,tP t.1.S,iP t.1.N],[tP t.1.S,oA f,.sl [] .own,iP t.1.At]]⟩) ?_ fun y3 e3 h hJ3=>?_
 rintro⟨p5,p6,f⟩ h
 obtain⟨n_,hn_,h⟩:=Ae h
 refine cD 1 [(1,fm (AO _ _ hn_))] h (fun hc1 h=>?_) fun hc1 h=>?_
 cases h
 exact rt 1 [] hQ
 refine mI 0 [] h (fun (p7,p8,f1)=>⟨[(0,.ptr 0 0),(4,.ptr 1 0),(6,.ptr 3 0)],[[hT p7,iP p8],[tP ⟨#[]⟩,.sl [] .own,.sl [] .own,iP 0],[iP t.1.Kind,iP t.1.At,tP t.1.S,iP t.1.N],[tP t.1.S,oA f,oF f1,iP t.1.At]]⟩) ?_ fun y4 e4 h hJ4=>?_
 rintro⟨p7,p8,f1⟩ h
 obtain⟨n_1,hn_1,h⟩:=Ae h
 cases h
 exact rt 2 [(1,fm (AO _ _ hn_1))] hQ
 refine lR 1 [] (A:=((List Ap)×Int×(List Ax))) (fun n (p9,p10,f2)=>Eb n depth p9 p10 f2) (fun (p9,p10,f2)=>⟨[(0,.ptr 0 0),(1,iP depth),(4,.ptr 1 0),(6,.ptr 3 0)],[[hT p9,iP p10],[tP ⟨#[]⟩,.sl [] .own,.sl [] .own,iP 0],[iP t.1.Kind,iP t.1.At,tP t.1.S,iP t.1.N],[tP t.1.S,oA f,oF f2,iP t.1.At]]⟩) (n_.2.l,n_.2.forms,[]) hn e4 (fun _=>rfl) ?_
 rintro n ⟨p9,p10,f2⟩ hn e4 ih
 replace e4:=(Eb.eq_2 ..).symm.trans e4
 obtain⟨i,hi,e4⟩:=Ae e4
 refine cD 1 [(1,fm (AZ _ _ _ hi))] e4 (fun hc e4=>?_) fun hc e4=>?_
 refine wl 1 [] ?_
 refine yE e4 (fun f3 p11 hy5 e4=>?_) fun e5 p12 hy5 e4=>?_
 obtain⟨l,hl,e4⟩:=Ae e4
 obtain⟨l1,hl1,e4⟩:=Ae e4
 exact mJ 1 [(5,fm (ih_parse_parser_form _ hn _ _ (.ok f3 p11) hy5)),(0,fB EF hl),(0,fa EF hl1)] (ih (_,_,_) e4)
 cases e4
 cases h
 exact rp 1 [(5,LC (ih_parse_parser_form _ hn _ _ (.pan e5 p12) hy5))] hQ
 exact mJ 1 [] (hJ4 _ (oj e4))
 refine lR 1 [] (A:=((List Ap)×Int×(List BB))) (fun n (p13,p14,f4)=>CU n p13 p14 f4) (fun (p13,p14,f4)=>⟨[(0,.ptr 0 0),(1,iP depth),(4,.ptr 1 0),(6,.ptr 3 0)],[[hT p13,iP p14],[tP ⟨#[]⟩,.sl [] .own,.sl [] .own,iP 0],[iP t.1.Kind,iP t.1.At,tP t.1.S,iP t.1.N],[tP t.1.S,oA f4,.sl [] .own,iP t.1.At]]⟩) (t.2.l,t.2.forms,[]) hn e3 (fun _=>rfl) ?_
 rintro n ⟨p13,p14,f4⟩ hn e3 ih1
 replace e3:=(CU.eq_2 ..).symm.trans e3
 refine mE 0 [] e3 (fun v49=>⟨[(0,.ptr 0 0),(1,iP depth),(4,.ptr 1 0),(6,.ptr 3 0),(49,bP v49)],[[hT p13,iP p14],[tP ⟨#[]⟩,.sl [] .own,.sl [] .own,iP 0],[iP t.1.Kind,iP t.1.At,tP t.1.S,iP t.1.N],[tP t.1.S,oA f4,.sl [] .own,iP t.1.At]]⟩) ?_ fun y6 e6 hJ5=>?_
 rintro v49 e3
 refine cD 0 [] e3 (fun hc5 e3=>?_) fun hc5 e3=>?_
 refine mE 1 [] e3 (fun v57=>⟨[(0,.ptr 0 0),(1,iP depth),(4,.ptr 1 0),(6,.ptr 3 0),(57,bP v57)],[[hT p13,iP p14],[tP ⟨#[]⟩,.sl [] .own,.sl [] .own,iP 0],[iP t.1.Kind,iP t.1.At,tP t.1.S,iP t.1.N],[tP t.1.S,oA f4,.sl [] .own,iP t.1.At]]⟩) ?_ fun y7 e7 hJ6=>?_
 rintro v57 e3
 refine mI 0 [] e3 (fun (p15,p16)=>⟨[(0,.ptr 0 0),(1,iP depth),(4,.ptr 1 0),(6,.ptr 3 0)],[[hT p15,iP p16],[tP ⟨#[]⟩,.sl [] .own,.sl [] .own,iP 0],[iP t.1.Kind,iP t.1.At,tP t.1.S,iP t.1.N],[tP t.1.S,oA f4,.sl [] .own,iP t.1.At]]⟩) ?_ fun y8 e8 e3 hJ7=>?_
 rintro⟨p15,p16⟩ e3
 refine cD 1 [(2,fl Bo f4)] e3 (fun hc2 e3=>?_) fun hc2 e3=>?_
 refine yE e3 (fun f5 p17 hy9 e3=>?_) fun e9 p18 hy9 e3=>?_
 refine wl 1 [(1,fm (Ay _ _ (.ok f5 p17) hy9))] ?_
 refine yE e3 (fun a_ p19 hy10 e3=>?_) fun e10 p20 hy10 e3=>?_
 obtain⟨l2,hl2,e3⟩:=Ae e3
 obtain⟨l3,hl3,e3⟩:=Ae e3
 exact mJ 1 [(3,fm (F2 _ _ (.ok a_ p19) hy10)),(0,fBF Bo hl2),(0,fa Bo hl3)] (ih1 (_,_,_) e3)
 cases e3
 cases h
 exact rp 1 [(3,LC (F2 _ _ (.pan e10 p20) hy10))] hQ
 cases e3
 cases h
 exact rp 1 [(1,LC (Ay _ _ (.pan e9 p18) hy9))] hQ
 refine yE e3 (fun a_1 p21 hy11 e3=>?_) fun e11 p22 hy11 e3=>?_
 obtain⟨l4,hl4,e3⟩:=Ae e3
 obtain⟨l5,hl5,e3⟩:=Ae e3
 exact mJ 1 [(3,fm (F2 _ _ (.ok a_1 p21) hy11)),(0,fBF Bo hl4),(0,fa Bo hl5)] (ih1 (_,_,_) e3)
 cases e3
 cases h
 exact rp 1 [(3,LC (F2 _ _ (.pan e11 p22) hy11))] hQ
 refine cD 0 [] e8 (fun hc3 e8=>?_) fun hc3 e8=>?_
 refine yE e8 (fun f6 p23 hy12 e8=>?_) fun e12 p24 hy12 e8=>?_
 exact mJ 1 [(1,fm (Ay _ _ (.ok f6 p23) hy12))] (hJ7 _ (oj e8))
 cases e8
 cases e3
 cases h
 exact rp 1 [(1,LC (Ay _ _ (.pan e12 p24) hy12))] hQ
 exact mJ 0 [] (hJ7 _ (oj e8))
 obtain⟨b,hb,e7⟩:=Ae e7
 rcases Am e7 with⟨hc4,e7⟩|⟨hc4,e7⟩
 obtain⟨i1,hi1,e7⟩:=Ae e7
 exact mJ 1 [(1,fm (Cy _ _ hb)),(1,fo hc4),(1,fm (AZ _ _ _ hi1))] (hJ6 _ (oj e7))
 exact mJ 1 [(1,fm (Cy _ _ hb)),(1,fo hc4)] (hJ6 _ (oj e7))
 exact mJ 1 [] (hJ3 _ (oj e3))
 obtain⟨i2,hi2,e6⟩:=Ae e6
 rcases Am e6 with⟨hc6,e6⟩|⟨hc6,e6⟩
 obtain⟨i3,hi3,e6⟩:=Ae e6
 exact mJ 1 [(1,fm (AZ _ _ _ hi2)),(1,fo hc6),(1,fm (AZ _ _ _ hi3))] (hJ5 _ (oj e6))
 exact mJ 1 [(1,fm (AZ _ _ _ hi2)),(1,fo hc6)] (hJ5 _ (oj e6))
 refine cD 0 [] e2 (fun hc7 e2=>?_) fun hc7 e2=>?_
 refine yE e2 (fun f7 p25 hy13 e2=>?_) fun e13 p26 hy13 e2=>?_
 exact mJ 1 [(1,fm (Ay _ _ (.ok f7 p25) hy13))] (hJ2 _ (oj e2))
 cases e2
 cases h
 exact rp 1 [(1,LC (Ay _ _ (.pan e13 p26) hy13))] hQ
 exact mJ 0 [] (hJ2 _ (oj e2))
 rcases Am e1 with⟨hc8,e1⟩|⟨hc8,e1⟩
 exact mJ 1 [(2,fo hc8)] (hJ1 _ (oj e1))
 exact mJ 1 [(2,fo hc8)] (hJ1 _ (oj e1))
 refine cD 0 [] e (fun hc9 e=>?_) fun hc9 e=>?_
 refine yE e (fun f8 p27 hy14 e=>?_) fun e14 p28 hy14 e=>?_
 exact mJ 1 [(1,fm (Ay _ _ (.ok f8 p27) hy14))] (hJ _ (oj e))
 cases e
 cases h
 exact rp 1 [(1,LC (Ay _ _ (.pan e14 p28) hy14))] hQ
 exact mJ 0 [] (hJ _ (oj e))
theorem Hl:∀ n:Nat,(∀ m,m<=n->∀ (p:Ad) (depth:Int) (r:(Ex Ao Ad Ax)),BT m p depth=some r->K5 r (fun v0 s0=>D9 Tryz.prog 70 [iP depth] [hT p.l,iP p.forms] (.ret (.agg [tP v0.Word,hA v0.Args,hF v0.Body,iP v0.At])) [hT s0.l,iP s0.forms]) (fun e0 s0=>D9 Tryz.prog 70 [iP depth] [hT p.l,iP p.forms] (.pan [{ v:=.iface 188 (.agg #[(.int .i64 e0.At),(.int .i64 e0.E)]),recovered:=false }]) [hT s0.l,iP s0.forms]))
 |0=>(fun m hm p depth r h=>by
  obtain rfl:m=0:=by omega
  exact absurd h (by simp [BT]))
 |n+1=>by
  have ih:=Hl n
  exact fun m hm p depth r h=>by
   cases m with
   |zero=>exact absurd h (by simp [BT])
   |succ m=>exact Lh n (ih) m (by omega) p depth _ h
theorem EK (n:Nat)(p:Ad)(depth:Int)(r:(Ex Ao Ad Ax))(h:BT n p depth=some r):K5 r (fun v0 s0=>D9 Tryz.prog 70 [iP depth] [hT p.l,iP p.forms] (.ret (.agg [tP v0.Word,hA v0.Args,hF v0.Body,iP v0.At])) [hT s0.l,iP s0.forms]) (fun e0 s0=>D9 Tryz.prog 70 [iP depth] [hT p.l,iP p.forms] (.pan [{ v:=.iface 188 (.agg #[(.int .i64 e0.At),(.int .i64 e0.E)]),recovered:=false }]) [hT s0.l,iP s0.forms]) :=
 (Hl n) n (à _) p depth r h
end Go.Proofs.YtehfpameijkafaaGreatDoor
namespace Go.Sp
open Go Go.Vl
set_option linter.unusedVariables false
def MP (s:Æ)(c:Int):Option Int:=some (Lib.indexByte s.data.toList c.toNat.toUInt8)
def Wx (s p:Æ):Option Bool:=some (Lib.hasPrefix s.data.toList p.data.toList)
def Tv (s p:Æ):Option Bool:=match p.data.toList with | [c]=>some (decide (0<=Lib.indexByte s.data.toList c))|_=>none
def Sr:Æ:=⟨#[45,62,32,58,61,32,61,61,32,33,61,32,60,61,32,62,61,32,38,38,32,124,124,32,46,46]⟩
def Mc (s:Æ):Option (List Æ):=if s=Sr then some (Lx.long.map fun l=>⟨⟨l⟩⟩) else none
def MQ (s:Æ):Option Unit:=if s.size<=1000000 then some () else none
def O0 (s:Æ):Bool:=match Lib.atoiAll s.data.toList with|.ok _=>false|_=>true
def L4 (s:Æ):Int:=match Lib.atoiAll s.data.toList with|.ok v=>v|.range=>Lib.atoiSat s.data.toList|_=>0
structure Ak where
 src:Æ
 at_:Int
 out:(List Ap)
def EH (c:Int):Option Int :=
 bif (c == 95) then
  some 3
 else
  ((bif (decide (97<=c)) then
   some (decide (c<=122))
  else
   some false
  ):Option Bool).bind fun v6 =>
   ((bif v6 then
    some v6
   else
    ((bif (decide (65<=c)) then
     some (decide (c<=90))
    else
     some false
    ):Option Bool).bind fun v62 =>
     some v62
   ):Option Bool).bind fun v61 =>
    bif v61 then
     some 3
    else
     ((bif (decide (48<=c)) then
      some (decide (c<=57))
     else
      some false
     ):Option Bool).bind fun v19 =>
      bif v19 then
       some 2
      else
       ((bif (c == 32) then
        some (c == 32)
       else
        bif (c == 9) then
         some (c == 9)
        else
         bif (c == 10) then
          some (c == 10)
         else
          some (c == 13)
       ):Option Bool).bind fun v26 =>
        bif v26 then
         some 1
        else
         some 0
def AS:Nat->Ak->Int->Option (Int ⊕ (Unit×Ak))
 |0,_,_=>none
 |n+1,r_,r_2 =>
  bif (decide (r_2<(r_.src.size:Int))) then
   (gb r_.src r_2).bind fun c =>
   bif (c == 35) then
    (N8 r_.src r_2 (r_.src.size:Int)).bind fun s =>
    (MP s 10).bind fun n_ =>
    bif (decide (n_<0)) then
     AS n r_ (À (r_2+(À ((r_.src.size:Int)-r_2))))
    else
     AS n r_ (À (r_2+n_))
   else
    (EH c).bind fun c1 =>
    bif (c1 == 1) then
     AS n r_ (À (r_2+1))
    else
     some (.inr ((),(Ak.mk r_.src r_2 r_.out)))
  else
   some (.inl r_2)
def Ee (n:Nat)(r_:Ak):Option (Unit×Ak) :=
 ((AS n r_ r_.at_
 ):Option (Int ⊕ (Unit×Ak))).bind fun y=>match y with
 |.inl r_1 =>
  some ((),(Ak.mk r_.src r_1 r_.out))
 |.inr o=>some o
def BF:Nat->Ak->Int->Int->Option Int
 |0,_,_,_=>none
 |n+1,r_,least,to_1 =>
  ((bif (decide (to_1<(r_.src.size:Int))) then
   (gb r_.src to_1).bind fun c =>
   (EH c).bind fun c1 =>
   some (decide (least<=c1))
  else
   some false
  ):Option Bool).bind fun v27 =>
   bif v27 then
    BF n r_ least (À (to_1+1))
   else
    some to_1
def Ed (n:Nat)(r_:Ak)(least:Int):Option Int :=
 ((BF n r_ least r_.at_
 ):Option Int).bind fun to_ =>
  some to_
def B8 (r_:Ak)(kind:Int)(to_:Int)(s:Æ)(n_:Int):Option (Int×Ak) :=
 (some [(Ap.mk kind r_.at_ s n_)]).bind fun l =>
 (Ca 40 r_.out l).bind fun l1 =>
 some (0,(Ak.mk r_.src to_ l1))
def Eh (n:Nat)(r_:Ak):Option ((Bool×Int)×Ak) :=
 (gb r_.src r_.at_).bind fun c =>
 (EH c).bind fun c1 =>
 bif (c1 != 3) then
  some ((false,0),r_)
 else
  (Ed n r_ 2).bind fun to_ =>
  bif (decide (32<(À (to_-r_.at_)))) then
   some ((true,2),r_)
  else
   (N8 r_.src r_.at_ to_).bind fun s =>
   (B8 r_ 1 to_ s 0).bind fun p =>
   some ((true,p.1),p.2)
def Dp (n:Nat)(r_:Ak):Option ((Bool×Int)×Ak) :=
 (gb r_.src r_.at_).bind fun c =>
 (EH c).bind fun c1 =>
 bif (c1 != 2) then
  some ((false,0),r_)
 else
  (Ed n r_ 2).bind fun to_ =>
  (N8 r_.src r_.at_ to_).bind fun s =>
  (MQ s).bind fun _ =>
  bif O0 s then
   some ((true,27),r_)
  else
   ((bif (decide (15<(s.size:Int))) then
    some ((L4 s),true)
   else
    bif (decide (1<(s.size:Int))) then
     (gb s 0).bind fun c2 =>
     some ((L4 s),(c2 == 48))
    else
     some ((L4 s),false)
   ):Option (Int×Bool)).bind fun y=>match y with
   |(n_,v52) =>
    bif v52 then
     some ((true,27),r_)
    else
     (B8 r_ 2 to_ ⟨#[]⟩ n_).bind fun p =>
     some ((true,p.1),p.2)
def AB:Nat->Ak->(List Int)->Int->Option (Unit ⊕ ((Bool×Int)×Ak))
 |0,_,_,_=>none
 |n+1,r_,b,k =>
  bif (decide ((b.length:Int)<=200)) then
   bif (decide ((r_.src.size:Int)<=k)) then
    some (.inr ((true,28),r_))
   else
    (gb r_.src k).bind fun c1 =>
    bif (c1 == 34) then
     (B8 r_ 3 (À (k+1)) (ZR b) 0).bind fun p =>
     some (.inr ((true,p.1),p.2))
    else
     bif (c1 == 92) then
      ((bif (decide ((À (k+1))<(r_.src.size:Int))) then
       (gb r_.src (À (k+1))).bind fun c3 =>
       (MP ⟨#[34,92,110]⟩ c3).bind fun pair1 =>
       some pair1
      else
       some (-1)
      ):Option Int).bind fun pair =>
       bif (decide (pair<0)) then
        some (.inr ((true,28),r_))
       else
        (gb ⟨#[34,92,10]⟩ pair).bind fun c2 =>
        (some [c2]).bind fun l =>
        (Ca 1 b l).bind fun l1 =>
        AB n r_ l1 (À ((À (k+1))+1))
     else
      ((bif (decide (c1<32)) then
       some true
      else
       some (decide (126<c1))
      ):Option Bool).bind fun v80 =>
       bif v80 then
        some (.inr ((true,28),r_))
       else
        (some [c1]).bind fun l2 =>
        (Ca 1 b l2).bind fun l3 =>
        AB n r_ l3 (À (k+1))
  else
   some (.inl ())
def Ec (n:Nat)(r_:Ak):Option ((Bool×Int)×Ak) :=
 (gb r_.src r_.at_).bind fun c =>
 bif (c != 34) then
  some ((false,0),r_)
 else
  ((AB n r_ [] (À (r_.at_+1))
  ):Option (Unit ⊕ ((Bool×Int)×Ak))).bind fun y=>match y with
  |.inl _ =>
   some ((true,2),r_)
  |.inr o=>some o
def BX:Nat->(List Æ)->Æ->Ak->Int->Option (Unit ⊕ ((Bool×Int)×Ak))
 |0,_,_,_,_=>none
 |n+1,f,s,r_,v18 =>
  bif (decide (v18<(f.length:Int))) then
   (gi f v18).bind fun x =>
   (Wx s x).bind fun h_ =>
   bif h_ then
    (B8 r_ 4 (À (r_.at_+2)) x 0).bind fun p1 =>
    some (.inr ((true,p1.1),p1.2))
   else
    BX n f s r_ (À (v18+1))
  else
   some (.inl ())
def Ef (n:Nat)(r_:Ak):Option ((Bool×Int)×Ak) :=
 (N8 r_.src r_.at_ (r_.src.size:Int)).bind fun s =>
 (Mc ⟨#[45,62,32,58,61,32,61,61,32,33,61,32,60,61,32,62,61,32,38,38,32,124,124,32,46,46]⟩).bind fun f =>
 ((BX n f s r_ 0
 ):Option (Unit ⊕ ((Bool×Int)×Ak))).bind fun y=>match y with
 |.inl _ =>
  (N8 s 0 1).bind fun s1 =>
  (Tv ⟨#[40,41,123,125,91,93,44,59,58,46,43,45,42,47,37,60,62,61,33,38,124,64,63,94,126]⟩ s1).bind fun c =>
  bif (!c) then
   some ((false,0),r_)
  else
   (B8 r_ 4 (À (r_.at_+1)) s1 0).bind fun p =>
   some ((true,p.1),p.2)
 |.inr o=>some o
def Ar:Nat->Int->Æ->Int->(List Ap)->Option ((ByteArray×Int×(List Ap)) ⊕ (Int×Ak))
 |0,_,_,_,_=>none
 |n+1,v8,r_4,r_5,r_6 =>
  bif (v8 == 0) then
   (Eh n (Ak.mk r_4 r_5 r_6)).bind fun n_1 =>
   bif n_1.1.1 then
    some (.inr (n_1.1.2,n_1.2))
   else
    Ar n 1 n_1.2.src n_1.2.at_ n_1.2.out
  else
   bif (v8 == 1) then
    (Dp n (Ak.mk r_4 r_5 r_6)).bind fun n_ =>
    bif n_.1.1 then
     some (.inr (n_.1.2,n_.2))
    else
     Ar n 2 n_.2.src n_.2.at_ n_.2.out
   else
    bif (v8 == 2) then
     (Ec n (Ak.mk r_4 r_5 r_6)).bind fun t =>
     bif t.1.1 then
      some (.inr (t.1.2,t.2))
     else
      Ar n 3 t.2.src t.2.at_ t.2.out
    else
     bif (v8 == 3) then
      (Ef n (Ak.mk r_4 r_5 r_6)).bind fun s =>
      bif s.1.1 then
       some (.inr (s.1.2,s.2))
      else
       Ar n 4 s.2.src s.2.at_ s.2.out
     else
      bif (v8 == 4) then
       some (.inl (r_4,r_5,r_6))
      else
       none
def Eg (n:Nat)(r_:Ak):Option (Int×Ak) :=
 ((Ar n 0 r_.src r_.at_ r_.out
 ):Option ((ByteArray×Int×(List Ap)) ⊕ (Int×Ak))).bind fun y=>match y with
 |.inl (r_1,r_2,r_3) =>
  some (26,(Ak.mk r_1 r_2 r_3))
 |.inr o=>some o
def Cr:Nat->Æ->Æ->Int->(List Ap)->Option ((ByteArray×Int×(List Ap)) ⊕ ((List Ap)×An))
 |0,_,_,_,_=>none
 |n+1,src,q3,q4,q5 =>
  bif (decide (q4<(src.size:Int))) then
   (Eg n (Ak.mk q3 q4 q5)).bind fun e1 =>
   bif (e1.1 != 0) then
    some (.inr ([],(An.mk e1.2.at_ e1.1)))
   else
    (Ee n e1.2).bind fun s1 =>
    Cr n src s1.2.src s1.2.at_ s1.2.out
  else
   some (.inl (q3,q4,q5))
def Ik (n:Nat)(src:Æ):Option ((List Ap)×An) :=
 bif (decide (65536<(src.size:Int))) then
  some ([],(An.mk 0 2))
 else
  (Ee n (Ak.mk src 0 [])).bind fun s =>
  ((Cr n src s.2.src s.2.at_ s.2.out
  ):Option ((ByteArray×Int×(List Ap)) ⊕ ((List Ap)×An))).bind fun y=>match y with
  |.inl (q,q1,q2) =>
   (B8 (Ak.mk q q1 q2) 5 (src.size:Int) ⟨#[]⟩ 0).bind fun p =>
   some (p.2.out,(An.mk 0 0))
  |.inr o=>some o
end Go.Sp
