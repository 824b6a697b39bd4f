/-
  The walks of chapter 33: the operations: the program computes the plain functions. (Printed by lift.py.)
-/
import Derived.Test.YtkcfmlfkfagejaaGreatDoorU7
import Derived.Test.YtkcfmlfkfagejaaGreatDoorU12
import Derived.Test.YtkcfmlfkfagejaaGreatDoorU22
set_option linter.unusedVariables false
set_option linter.unusedSimpArgs false
namespace Go.Proofs.YtkcfmlfkfagejaaGreatDoor
open Go.RowKit Go.Q Go.Vl Go.Sp
set_option maxRecDepth 100000
set_option linter.unusedSimpArgs false
set_option maxHeartbeats 4000000
set_option linter.unusedVariables false
theorem II (m_:Ah)(x:(List Int))(r:Int)(h:Ey m_ x=some r):C1 Tryz.prog 77 [.agg [hZ m_.d.Facts,iP m_.d.Stored,iP m_.d.Owner,iP m_.known],hI x] (iP r):=by
 unfold Ey at h
 refine vP ⟨[0,1,4],[]⟩ Tryz.func77 follows fun Q hQ=>?_
 obtain⟨x1,hx1,h⟩:=Ae h
 cases h
 exact rt 2 [(3,fi AP hx1)] hQ
theorem Lg (x:Int)(y:Int)(r:(Int×Int))(h:DJ x y=some r):C1 Tryz.prog 131 [.lit (.int .u64 x),.lit (.int .u64 y)] (.tup [.lit (.int .u64 r.1),.lit (.int .u64 r.2)]):=by
 unfold DJ at h
 refine vP ⟨[0,1,4,5,6,7,8,9,10,11,12,13],[]⟩ Tryz.func131 follows fun Q hQ=>?_
 cases h
 exact rt 12 [] hQ
theorem M1 (a_:Int)(b:Int)(r:Int)(h:DL a_ b=some r):C1 Tryz.prog 79 [iP a_,iP b] (iP r):=by
 unfold DL at h
 refine vP ⟨[0,1,4,5,6,7,27,34],[]⟩ Tryz.func79 follows fun Q hQ=>?_
 obtain⟨m_,hm_,h⟩:=Ae h
 refine mE 3 [(11,fk (Lg _ _ _ hm_))] h (fun v27=>⟨[(0,iP a_),(1,iP b),(4,iP 0),(6,.lit (.int .u64 m_.2)),(7,iP 999999999999999),(27,bP v27)],[]⟩) ?_ fun y e hJ=>?_
 rintro v27 h
 refine mE 0 [] h (fun n_=>⟨[(0,iP a_),(1,iP b),(4,iP 0),(7,iP n_)],[]⟩) ?_ fun y1 e1 hJ1=>?_
 rintro n_ h
 refine cD 1 [] h (fun hc h=>?_) fun hc h=>?_
 cases h
 exact rt 1 [] hQ
 cases h
 exact rt 1 [] hQ
 refine cD 0 [] e1 (fun hc1 e1=>?_) fun hc1 e1=>?_
 exact mJ 1 [] (hJ1 _ (oj e1))
 exact mJ 0 [] (hJ1 _ (oj e1))
 rcases Ar e with⟨hc2,e⟩|⟨hc2,e⟩
 exact mJ 1 [(2,fo hc2)] (hJ _ (oj e))
 exact mJ 1 [(2,fo hc2)] (hJ _ (oj e))
theorem IH (m_:Ah)(x:(List Int))(r:Int)(h:Ew m_ x=some r):C1 Tryz.prog 78 [.agg [hZ m_.d.Facts,iP m_.d.Stored,iP m_.d.Owner,iP m_.known],hI x] (iP r):=by
 unfold Ew at h
 refine vP ⟨[0,1,4],[(1,[9999,0,0,1,2,3,4,5,6,7])]⟩ Tryz.func78 follows fun Q hQ=>?_
 obtain⟨x1,hx1,h⟩:=Ae h
 obtain⟨x2,hx2,h⟩:=Ae h
 obtain⟨t,ht,h⟩:=Ae h
 cases h
 exact rt 2 [(3,fi AP hx1),(2,fi AP hx2),(1,fk (M1 _ _ _ ht))] hQ
theorem I1 (n_:Int)(r:Int)(h:Ci n_=some r):C1 Tryz.prog 81 [iP n_] (iP r):=by
 unfold Ci at h
 refine vP ⟨[0,2],[]⟩ Tryz.func81 follows fun Q hQ=>?_
 cases h
 exact rt 2 [] hQ
theorem IG (m_:Ah)(x:(List Int))(r:Int)(h:Eu m_ x=some r):C1 Tryz.prog 80 [.agg [hZ m_.d.Facts,iP m_.d.Stored,iP m_.d.Owner,iP m_.known],hI x] (iP r):=by
 unfold Eu at h
 refine vP ⟨[0,1,4],[(1,[9999,0,0,1,2,3,4,5,6,7,8])]⟩ Tryz.func80 follows fun Q hQ=>?_
 obtain⟨x1,hx1,h⟩:=Ae h
 obtain⟨x2,hx2,h⟩:=Ae h
 obtain⟨n_,hn_,h⟩:=Ae h
 cases h
 exact rt 2 [(3,fi AP hx1),(2,fi AP hx2),(2,fk (I1 _ _ hn_))] hQ
theorem Kz (n_:Int)(r:Int)(h:Ez n_=some r):C1 Tryz.prog 91 [iP n_] (iP r):=by
 unfold Ez at h
 refine vP ⟨[0,2],[]⟩ Tryz.func91 follows fun Q hQ=>?_
 cases h
 exact rt 2 [] hQ
theorem IP (d:Int)(n_:Int)(r:Int)(h:CD d n_=some r):C1 Tryz.prog 83 [iP d,iP n_] (iP r):=by
 unfold CD at h
 refine vP ⟨[0,1,4,6],[]⟩ Tryz.func83 follows fun Q hQ=>?_
 refine cD 2 [] h (fun hc h=>?_) fun hc h=>?_
 cases h
 exact rt 1 [] hQ
 obtain⟨d1,hd1,h⟩:=Ae h
 cases h
 exact rt 1 [(3,fk (Kz _ _ hd1))] hQ
theorem IF (m_:Ah)(x:(List Int))(r:Int)(h:Et m_ x=some r):C1 Tryz.prog 82 [.agg [hZ m_.d.Facts,iP m_.d.Stored,iP m_.d.Owner,iP m_.known],hI x] (iP r):=by
 unfold Et at h
 refine vP ⟨[0,1,4],[(1,[9999,0,0,1,2,3,4,5,6,7])]⟩ Tryz.func82 follows fun Q hQ=>?_
 obtain⟨x1,hx1,h⟩:=Ae h
 obtain⟨x2,hx2,h⟩:=Ae h
 obtain⟨m_1,hm_1,h⟩:=Ae h
 cases h
 exact rt 2 [(3,fi AP hx1),(2,fi AP hx2),(1,fk (IP _ _ _ hm_1))] hQ
theorem IE (m_:Ah)(x:(List Int))(r:Int)(h:Es m_ x=some r):C1 Tryz.prog 84 [.agg [hZ m_.d.Facts,iP m_.d.Stored,iP m_.d.Owner,iP m_.known],hI x] (iP r):=by
 unfold Es at h
 refine vP ⟨[0,1,4],[(1,[9999,0,0,1,2,3,4,5,6,7,8])]⟩ Tryz.func84 follows fun Q hQ=>?_
 obtain⟨x1,hx1,h⟩:=Ae h
 obtain⟨x2,hx2,h⟩:=Ae h
 obtain⟨n_,hn_,h⟩:=Ae h
 cases h
 exact rt 2 [(3,fi AP hx1),(2,fi AP hx2),(2,fk (I1 _ _ hn_))] hQ
theorem ID (m_:Ah)(x:(List Int))(r:Int)(h:Er m_ x=some r):C1 Tryz.prog 85 [.agg [hZ m_.d.Facts,iP m_.d.Stored,iP m_.d.Owner,iP m_.known],hI x] (iP r):=by
 unfold Er at h
 refine vP ⟨[0,1,4],[(1,[9999,0,0,1,2,3,4,5,6,7,8])]⟩ Tryz.func85 follows fun Q hQ=>?_
 obtain⟨x1,hx1,h⟩:=Ae h
 obtain⟨x2,hx2,h⟩:=Ae h
 obtain⟨m_1,hm_1,h⟩:=Ae h
 cases h
 exact rt 2 [(3,fi AP hx1),(2,fi AP hx2),(2,fk (IP _ _ _ hm_1))] hQ
theorem IC (m_:Ah)(x:(List Int))(r:Int)(h:Ep m_ x=some r):C1 Tryz.prog 86 [.agg [hZ m_.d.Facts,iP m_.d.Stored,iP m_.d.Owner,iP m_.known],hI x] (iP r):=by
 unfold Ep at h
 refine vP ⟨[0,1,4],[(1,[9999,0,0,1,2,3,4,5,6,7])]⟩ Tryz.func86 follows fun Q hQ=>?_
 obtain⟨x1,hx1,h⟩:=Ae h
 obtain⟨x2,hx2,h⟩:=Ae h
 cases h
 exact rt 2 [(3,fi AP hx1),(2,fi AP hx2)] hQ
theorem IB (m_:Ah)(x:(List Int))(r:Int)(h:Eo m_ x=some r):C1 Tryz.prog 87 [.agg [hZ m_.d.Facts,iP m_.d.Stored,iP m_.d.Owner,iP m_.known],hI x] (iP r):=by
 unfold Eo at h
 refine vP ⟨[0,1,4],[]⟩ Tryz.func87 follows fun Q hQ=>?_
 obtain⟨x1,hx1,h⟩:=Ae h
 cases h
 exact rt 2 [(3,fi AP hx1)] hQ
theorem IA (m_:Ah)(x:(List Int))(r:Int)(h:En m_ x=some r):C1 Tryz.prog 88 [.agg [hZ m_.d.Facts,iP m_.d.Stored,iP m_.d.Owner,iP m_.known],hI x] (iP r):=by
 unfold En at h
 refine vP ⟨[0,1,4],[(1,[9999,0,0,1,2,3,4,5,6,7])]⟩ Tryz.func88 follows fun Q hQ=>?_
 obtain⟨x1,hx1,h⟩:=Ae h
 obtain⟨x2,hx2,h⟩:=Ae h
 cases h
 exact rt 2 [(3,fi AP hx1),(2,fi AP hx2)] hQ
theorem Ic (m_:Ah)(x:(List Int))(r:Int)(h:Ea m_ x=some r):C1 Tryz.prog 89 [.agg [hZ m_.d.Facts,iP m_.d.Stored,iP m_.d.Owner,iP m_.known],hI x] (iP r):=by
 unfold Ea at h
 refine vP ⟨[0,1,4],[(1,[9999,0,0,1,2,3,4,5,6,7])]⟩ Tryz.func89 follows fun Q hQ=>?_
 obtain⟨x1,hx1,h⟩:=Ae h
 obtain⟨x2,hx2,h⟩:=Ae h
 cases h
 exact rt 2 [(3,fi AP hx1),(2,fi AP hx2)] hQ
theorem Ib (m_:Ah)(x:(List Int))(r:Int)(h:DZ m_ x=some r):C1 Tryz.prog 90 [.agg [hZ m_.d.Facts,iP m_.d.Stored,iP m_.d.Owner,iP m_.known],hI x] (iP r):=by
 unfold DZ at h
 refine vP ⟨[0,1,4],[]⟩ Tryz.func90 follows fun Q hQ=>?_
 obtain⟨x1,hx1,h⟩:=Ae h
 obtain⟨d,hd,h⟩:=Ae h
 cases h
 exact rt 2 [(3,fi AP hx1),(1,fk (Kz _ _ hd))] hQ
theorem Ia (m_:Ah)(x:(List Int))(r:Int)(h:DY m_ x=some r):C1 Tryz.prog 92 [.agg [hZ m_.d.Facts,iP m_.d.Stored,iP m_.d.Owner,iP m_.known],hI x] (iP r):=by
 unfold DY at h
 refine vP ⟨[0,1,4],[]⟩ Tryz.func92 follows fun Q hQ=>?_
 obtain⟨x1,hx1,h⟩:=Ae h
 cases h
 exact rt 2 [(3,fi AP hx1)] hQ
theorem HH (m_:Ah)(x:(List Int))(r:Int)(h:DQ m_ x=some r):C1 Tryz.prog 103 [.agg [hZ m_.d.Facts,iP m_.d.Stored,iP m_.d.Owner,iP m_.known],hI x] (iP r):=by
 unfold DQ at h
 refine vP ⟨[0,1,4],[]⟩ Tryz.func103 follows fun Q hQ=>?_
 obtain⟨x1,hx1,h⟩:=Ae h
 obtain⟨x2,hx2,h⟩:=Ae h
 cases h
 exact rt 2 [(4,fi AP hx1),(2,fi AP hx2)] hQ
theorem HG (m_:Ah)(x:(List Int))(r:Int)(h:DP m_ x=some r):C1 Tryz.prog 104 [.agg [hZ m_.d.Facts,iP m_.d.Stored,iP m_.d.Owner,iP m_.known],hI x] (iP r):=by
 unfold DP at h
 refine vP ⟨[0,1,4],[(1,[9999,0,0,1,2,3,4,5,6,7])]⟩ Tryz.func104 follows fun Q hQ=>?_
 obtain⟨x1,hx1,h⟩:=Ae h
 obtain⟨x2,hx2,h⟩:=Ae h
 cases h
 exact rt 2 [(3,fi AP hx1),(2,fi AP hx2)] hQ
theorem HF (m_:Ah)(x:(List Int))(r:Int)(h:DO m_ x=some r):C1 Tryz.prog 105 [.agg [hZ m_.d.Facts,iP m_.d.Stored,iP m_.d.Owner,iP m_.known],hI x] (iP r):=by
 unfold DO at h
 refine vP ⟨[0,1,4],[(1,[9999,0,0,1,2,3,4,5,6,7])]⟩ Tryz.func105 follows fun Q hQ=>?_
 obtain⟨x1,hx1,h⟩:=Ae h
 obtain⟨x2,hx2,h⟩:=Ae h
 cases h
 exact rt 2 [(3,fi AP hx1),(2,fi AP hx2)] hQ
theorem HV (a_:Int)(b:Int)(r:Bool)(h:DW a_ b=some r):C1 Tryz.prog 95 [iP a_,iP b] (bP r):=by
 unfold DW at h
 refine vP ⟨[0,1,4],[]⟩ Tryz.func95 follows fun Q hQ=>?_
 cases h
 exact rt 2 [] hQ
theorem HU (a_:Int)(b:Int)(r:Bool)(h:DV a_ b=some r):C1 Tryz.prog 96 [iP a_,iP b] (bP r):=by
 unfold DV at h
 refine vP ⟨[0,1,4],[]⟩ Tryz.func96 follows fun Q hQ=>?_
 cases h
 exact rt 2 [] hQ
theorem HO (a_:Int)(b:Int)(r:Bool)(h:DU a_ b=some r):C1 Tryz.prog 97 [iP a_,iP b] (bP r):=by
 unfold DU at h
 refine vP ⟨[0,1,4],[]⟩ Tryz.func97 follows fun Q hQ=>?_
 cases h
 exact rt 2 [] hQ
theorem HM (a_:Int)(b:Int)(r:Bool)(h:DT a_ b=some r):C1 Tryz.prog 98 [iP a_,iP b] (bP r):=by
 unfold DT at h
 refine vP ⟨[0,1,4],[]⟩ Tryz.func98 follows fun Q hQ=>?_
 cases h
 exact rt 2 [] hQ
theorem HL (a_:Int)(b:Int)(r:Bool)(h:DS a_ b=some r):C1 Tryz.prog 99 [iP a_,iP b] (bP r):=by
 unfold DS at h
 refine vP ⟨[0,1,4],[]⟩ Tryz.func99 follows fun Q hQ=>?_
 cases h
 exact rt 2 [] hQ
theorem HK (a_:Int)(b:Int)(r:Bool)(h:DR a_ b=some r):C1 Tryz.prog 100 [iP a_,iP b] (bP r):=by
 unfold DR at h
 refine vP ⟨[0,1,4],[]⟩ Tryz.func100 follows fun Q hQ=>?_
 cases h
 exact rt 2 [] hQ
theorem JZ (n:Nat)(m_:Ah)(kind:Int)(who:Int)(r:Int)(h:BP n m_ kind who=some r):C1 Tryz.prog 94 [.agg [hZ m_.d.Facts,iP m_.d.Stored,iP m_.d.Owner,iP m_.known],iP kind,iP who] (iP r):=by
 unfold BP at h
 refine vP ⟨[0,1,2,3,6,7,8,9,12,13,14,15,51,55],[(5,[9999,0,0,1,2,3,4,5,6,7,8,9,10,11,12,13,14,15,16,17,18,19,20,21,22,23,24,25,26,27,28,29,30,31,32])]⟩ Tryz.func94 follows fun Q hQ=>?_
 refine mE 3 [(6,fl AD m_.d.Facts)] h (fun best=>⟨[(3,.ptr 0 0),(6,iP 0),(7,iP best)],[[hZ m_.d.Facts,iP m_.d.Stored,iP m_.d.Owner,iP m_.known]]⟩) ?_ fun y e hJ=>?_
 rintro best h
 refine cD 1 [] h (fun hc h=>?_) fun hc h=>?_
 cases h
 exact rt 1 [] hQ
 obtain⟨x,hx,h⟩:=Ae h
 cases h
 exact rt 1 [(4,fi AD hx)] hQ
 refine lF 1 [] (A:=(Int×Int)) (fun n (best1,v14)=>Be n m_ kind who best1 v14) (fun (best1,v14)=>⟨[(1,iP kind),(2,iP who),(3,.ptr 0 0),(6,iP 0),(7,iP best1),(12,hZ m_.d.Facts),(13,iP (m_.d.Facts.length:Int)),(14,iP v14)],[[hZ m_.d.Facts,iP m_.d.Stored,iP m_.d.Owner,iP m_.known]]⟩) (-1,0) e (fun _=>rfl) ?_
 rintro n ⟨best1,v14⟩ e ih
 replace e:=(Be.eq_2 ..).symm.trans e
 refine cD 1 [] e (fun hc6 e=>?_) fun hc6 e=>?_
 obtain⟨x1,hx1,e⟩:=Ae e
 refine mE 2 [(1,fi AD hx1)] e (fun v51=>⟨[(1,iP kind),(2,iP who),(3,.ptr 0 0),(6,iP 0),(7,iP best1),(8,iP v14),(12,hZ m_.d.Facts),(13,iP (m_.d.Facts.length:Int)),(14,iP v14),(51,bP v51)],[[hZ m_.d.Facts,iP m_.d.Stored,iP m_.d.Owner,iP m_.known],[iP x1.Kind,iP x1.Who,iP x1.Day,iP x1.Known]]⟩) ?_ fun y1 e1 hJ1=>?_
 rintro v51 e
 refine cD 0 [] e (fun hc1 e=>?_) fun hc1 e=>?_
 exact mJ 2 [] (ih (_,_) e)
 exact mJ 1 [] (ih (_,_) e)
 rcases Ar e1 with⟨hc2,e1⟩|⟨hc2,e1⟩
 rcases Ar e1 with⟨hc3,e1⟩|⟨hc3,e1⟩
 rcases Ar e1 with⟨hc4,e1⟩|⟨hc4,e1⟩
 rcases Ar e1 with⟨hc5,e1⟩|⟨hc5,e1⟩
 exact mJ 1 [(4,fo hc2),(5,fo hc3),(6,fo hc4),(2,fo hc5)] (hJ1 _ (oj e1))
 obtain⟨x2,hx2,e1⟩:=Ae e1
 exact mJ 1 [(4,fo hc2),(5,fo hc3),(6,fo hc4),(2,fo hc5),(6,fi AD hx2)] (hJ1 _ (oj e1))
 exact mJ 1 [(4,fo hc2),(5,fo hc3),(6,fo hc4)] (hJ1 _ (oj e1))
 exact mJ 1 [(4,fo hc2),(5,fo hc3)] (hJ1 _ (oj e1))
 exact mJ 1 [(4,fo hc2)] (hJ1 _ (oj e1))
 exact mJ 1 [] (hJ _ (oj e))
theorem DK (b:Bool)(r:Int)(h:C5 b=some r):C1 Tryz.prog 102 [bP b] (iP r):=by
 unfold C5 at h
 refine vP ⟨[0,2,3],[]⟩ Tryz.func102 follows fun Q hQ=>?_
 refine cD 2 [] h (fun hc h=>?_) fun hc h=>?_
 cases h
 exact rt 1 [] hQ
 cases h
 exact rt 1 [] hQ
theorem HZ (n:Nat)(k:Int)(m_:Ah)(x:(List Int))(r:Int)(h:DX n k m_ x=some r):C1 Tryz.prog 93 [.agg [hZ m_.d.Facts,iP m_.d.Stored,iP m_.d.Owner,iP m_.known],hI x,.vptr [iP k] 0] (iP r):=by
 unfold DX at h
 refine vP ⟨[0,1,2,3,5],[(1,[9999,0,0,1,2,3,4,5,6,7])]⟩ Tryz.func93 follows fun Q hQ=>?_
 obtain⟨x1,hx1,h⟩:=Ae h
 obtain⟨f,hf,h⟩:=Ae h
 cases h
 exact rt 2 [(6,fi AP hx1),(1,fk (JZ _ _ _ _ _ hf))] hQ
theorem Hb (m_:Ah)(x:(List Int))(r:Int)(h:Dm m_ x=some r):C1 Tryz.prog 101 [.agg [hZ m_.d.Facts,iP m_.d.Stored,iP m_.d.Owner,iP m_.known],hI x,.vptr [.fno true 95 []] 0] (iP r):=by
 unfold Dm at h
 refine vP ⟨[0,1,2,5],[(1,[9999,0,0,1,2,3,4,5,6,7,8,9])]⟩ Tryz.func101 follows fun Q hQ=>?_
 obtain⟨x1,hx1,h⟩:=Ae h
 obtain⟨x2,hx2,h⟩:=Ae h
 obtain⟨o_,ho_,h⟩:=Ae h
 obtain⟨f,hf,h⟩:=Ae h
 cases h
 exact rt 2 [(4,fi AP hx1),(2,fi AP hx2),(1,fk (HV _ _ _ ho_)),(0,fk (DK _ _ hf))] hQ
theorem Ha (m_:Ah)(x:(List Int))(r:Int)(h:Dl m_ x=some r):C1 Tryz.prog 101 [.agg [hZ m_.d.Facts,iP m_.d.Stored,iP m_.d.Owner,iP m_.known],hI x,.vptr [.fno true 96 []] 0] (iP r):=by
 unfold Dl at h
 refine vP ⟨[0,1,2,5],[(1,[9999,0,0,1,2,3,4,5,6,7,8,9])]⟩ Tryz.func101 follows fun Q hQ=>?_
 obtain⟨x1,hx1,h⟩:=Ae h
 obtain⟨x2,hx2,h⟩:=Ae h
 obtain⟨o_,ho_,h⟩:=Ae h
 obtain⟨f,hf,h⟩:=Ae h
 cases h
 exact rt 2 [(4,fi AP hx1),(2,fi AP hx2),(1,fk (HU _ _ _ ho_)),(0,fk (DK _ _ hf))] hQ
theorem GZ (m_:Ah)(x:(List Int))(r:Int)(h:Dk m_ x=some r):C1 Tryz.prog 101 [.agg [hZ m_.d.Facts,iP m_.d.Stored,iP m_.d.Owner,iP m_.known],hI x,.vptr [.fno true 97 []] 0] (iP r):=by
 unfold Dk at h
 refine vP ⟨[0,1,2,5],[(1,[9999,0,0,1,2,3,4,5,6,7,8,9])]⟩ Tryz.func101 follows fun Q hQ=>?_
 obtain⟨x1,hx1,h⟩:=Ae h
 obtain⟨x2,hx2,h⟩:=Ae h
 obtain⟨o_,ho_,h⟩:=Ae h
 obtain⟨f,hf,h⟩:=Ae h
 cases h
 exact rt 2 [(4,fi AP hx1),(2,fi AP hx2),(1,fk (HO _ _ _ ho_)),(0,fk (DK _ _ hf))] hQ
theorem GY (m_:Ah)(x:(List Int))(r:Int)(h:Dj m_ x=some r):C1 Tryz.prog 101 [.agg [hZ m_.d.Facts,iP m_.d.Stored,iP m_.d.Owner,iP m_.known],hI x,.vptr [.fno true 98 []] 0] (iP r):=by
 unfold Dj at h
 refine vP ⟨[0,1,2,5],[(1,[9999,0,0,1,2,3,4,5,6,7,8,9])]⟩ Tryz.func101 follows fun Q hQ=>?_
 obtain⟨x1,hx1,h⟩:=Ae h
 obtain⟨x2,hx2,h⟩:=Ae h
 obtain⟨o_,ho_,h⟩:=Ae h
 obtain⟨f,hf,h⟩:=Ae h
 cases h
 exact rt 2 [(4,fi AP hx1),(2,fi AP hx2),(1,fk (HM _ _ _ ho_)),(0,fk (DK _ _ hf))] hQ
theorem GX (m_:Ah)(x:(List Int))(r:Int)(h:Di m_ x=some r):C1 Tryz.prog 101 [.agg [hZ m_.d.Facts,iP m_.d.Stored,iP m_.d.Owner,iP m_.known],hI x,.vptr [.fno true 99 []] 0] (iP r):=by
 unfold Di at h
 refine vP ⟨[0,1,2,5],[(1,[9999,0,0,1,2,3,4,5,6,7,8,9])]⟩ Tryz.func101 follows fun Q hQ=>?_
 obtain⟨x1,hx1,h⟩:=Ae h
 obtain⟨x2,hx2,h⟩:=Ae h
 obtain⟨o_,ho_,h⟩:=Ae h
 obtain⟨f,hf,h⟩:=Ae h
 cases h
 exact rt 2 [(4,fi AP hx1),(2,fi AP hx2),(1,fk (HL _ _ _ ho_)),(0,fk (DK _ _ hf))] hQ
theorem G6 (m_:Ah)(x:(List Int))(r:Int)(h:CX m_ x=some r):C1 Tryz.prog 101 [.agg [hZ m_.d.Facts,iP m_.d.Stored,iP m_.d.Owner,iP m_.known],hI x,.vptr [.fno true 100 []] 0] (iP r):=by
 unfold CX at h
 refine vP ⟨[0,1,2,5],[(1,[9999,0,0,1,2,3,4,5,6,7,8,9])]⟩ Tryz.func101 follows fun Q hQ=>?_
 obtain⟨x1,hx1,h⟩:=Ae h
 obtain⟨x2,hx2,h⟩:=Ae h
 obtain⟨o_,ho_,h⟩:=Ae h
 obtain⟨f,hf,h⟩:=Ae h
 cases h
 exact rt 2 [(4,fi AP hx1),(2,fi AP hx2),(1,fk (HK _ _ _ ho_)),(0,fk (DK _ _ hf))] hQ
end Go.Proofs.YtkcfmlfkfagejaaGreatDoor
