/-
  The walks of chapter 33: the operations: the program computes the plain functions. (Printed by lift.py.)
-/
import Derived.Test.YtkcfmlfkfagejaaGreatDoorU7
import Derived.Test.YtkcfmlfkfagejaaGreatDoorU12
import Derived.Test.YtkcfmlfkfagejaaGreatDoorU25
set_option linter.unusedVariables false
set_option linter.unusedSimpArgs false
namespace Go.Proofs.YtkcfmlfkfagejaaGreatDoor
open Go.RowKit Go.Q Go.Vl Go.Sp
set_option maxRecDepth 100000
set_option linter.unusedSimpArgs false
set_option maxHeartbeats 4000000
set_option linter.unusedVariables false
theorem Jz (m_:Al)(x:(List Int))(r:Int)(h:Fc m_ x=some r):Dr Tryz.prog 77 [.agg [hZ m_.d.Facts,iP m_.d.Stored,iP m_.d.Owner,iP m_.known],hI x] (iP r):=by
 unfold Fc at h
 refine vP ⟨[0,1,4],[]⟩ Tryz.func77 follows fun Q hQ=>?_
 obtain⟨x1,hx1,h⟩:=Ad h
 cases h
 exact rt 2 [(3,fi Bf hx1)] hQ
theorem LV (x:Int)(y:Int)(r:(Int×Int))(h:Ez x y=some r):Dr Tryz.prog 131 [.lit (.int .u64 x),.lit (.int .u64 y)] (.tup [.lit (.int .u64 r.1),.lit (.int .u64 r.2)]):=by
 unfold Ez at h
 refine vP ⟨[0,1,4,5,6,7,8,9,10,11,12,13],[]⟩ Tryz.func131 follows fun Q hQ=>?_
 cases h
 exact rt 12 [] hQ
theorem Nx (a_:Int)(b:Int)(r:Int)(h:E2 a_ b=some r):Dr Tryz.prog 79 [iP a_,iP b] (iP r):=by
 unfold E2 at h
 refine vP ⟨[0,1,4,5,6,7,27,34],[]⟩ Tryz.func79 follows fun Q hQ=>?_
 obtain⟨m_,hm_,h⟩:=Ad h
 refine mE 3 [(11,fk (LV _ _ _ hm_))] h (fun v27=>⟨[(0,iP a_),(1,iP b),(4,iP 0),(6,.lit (.int .u64 m_.2)),(7,iP 999999999999999),(27,bP v27)],[]⟩) ?_ fun y e hJ=>?_
 rintro v27 h
 refine mE 0 [] h (fun n_=>⟨[(0,iP a_),(1,iP b),(4,iP 0),(7,iP n_)],[]⟩) ?_ fun y1 e1 hJ1=>?_
 rintro n_ h
 refine cD 1 [] h (fun hc h=>?_) fun hc h=>?_
 cases h
 exact rt 1 [] hQ
 cases h
 exact rt 1 [] hQ
 refine cD 0 [] e1 (fun hc1 e1=>?_) fun hc1 e1=>?_
 exact mJ 1 [] (hJ1 _ (oj e1))
 exact mJ 0 [] (hJ1 _ (oj e1))
 rcases Ai e with⟨hc2,e⟩|⟨hc2,e⟩
 exact mJ 1 [(2,fo hc2)] (hJ _ (oj e))
 exact mJ 1 [(2,fo hc2)] (hJ _ (oj e))
theorem Jy (m_:Al)(x:(List Int))(r:Int)(h:Fb m_ x=some r):Dr Tryz.prog 78 [.agg [hZ m_.d.Facts,iP m_.d.Stored,iP m_.d.Owner,iP m_.known],hI x] (iP r):=by
 unfold Fb at h
 refine vP ⟨[0,1,4],[(1,[9999,0,0,1,2,3,4,5,6,7])]⟩ Tryz.func78 follows fun Q hQ=>?_
 obtain⟨x1,hx1,h⟩:=Ad h
 obtain⟨x2,hx2,h⟩:=Ad h
 obtain⟨t,ht,h⟩:=Ad h
 cases h
 exact rt 2 [(3,fi Bf hx1),(2,fi Bf hx2),(1,fk (Nx _ _ _ ht))] hQ
theorem Ji (n_:Int)(r:Int)(h:CN n_=some r):Dr Tryz.prog 81 [iP n_] (iP r):=by
 unfold CN at h
 refine vP ⟨[0,2],[]⟩ Tryz.func81 follows fun Q hQ=>?_
 cases h
 exact rt 2 [] hQ
theorem Jx (m_:Al)(x:(List Int))(r:Int)(h:EZ m_ x=some r):Dr Tryz.prog 80 [.agg [hZ m_.d.Facts,iP m_.d.Stored,iP m_.d.Owner,iP m_.known],hI x] (iP r):=by
 unfold EZ at h
 refine vP ⟨[0,1,4],[(1,[9999,0,0,1,2,3,4,5,6,7,8])]⟩ Tryz.func80 follows fun Q hQ=>?_
 obtain⟨x1,hx1,h⟩:=Ad h
 obtain⟨x2,hx2,h⟩:=Ad h
 obtain⟨n_,hn_,h⟩:=Ad h
 cases h
 exact rt 2 [(3,fi Bf hx1),(2,fi Bf hx2),(2,fk (Ji _ _ hn_))] hQ
theorem Lm (n_:Int)(r:Int)(h:Fe n_=some r):Dr Tryz.prog 91 [iP n_] (iP r):=by
 unfold Fe at h
 refine vP ⟨[0,2],[]⟩ Tryz.func91 follows fun Q hQ=>?_
 cases h
 exact rt 2 [] hQ
theorem J8 (d:Int)(n_:Int)(r:Int)(h:Dg d n_=some r):Dr Tryz.prog 83 [iP d,iP n_] (iP r):=by
 unfold Dg at h
 refine vP ⟨[0,1,4,6],[]⟩ Tryz.func83 follows fun Q hQ=>?_
 refine cD 2 [] h (fun hc h=>?_) fun hc h=>?_
 cases h
 exact rt 1 [] hQ
 obtain⟨d1,hd1,h⟩:=Ad h
 cases h
 exact rt 1 [(3,fk (Lm _ _ hd1))] hQ
theorem Jw (m_:Al)(x:(List Int))(r:Int)(h:EY m_ x=some r):Dr Tryz.prog 82 [.agg [hZ m_.d.Facts,iP m_.d.Stored,iP m_.d.Owner,iP m_.known],hI x] (iP r):=by
 unfold EY at h
 refine vP ⟨[0,1,4],[(1,[9999,0,0,1,2,3,4,5,6,7])]⟩ Tryz.func82 follows fun Q hQ=>?_
 obtain⟨x1,hx1,h⟩:=Ad h
 obtain⟨x2,hx2,h⟩:=Ad h
 obtain⟨m_1,hm_1,h⟩:=Ad h
 cases h
 exact rt 2 [(3,fi Bf hx1),(2,fi Bf hx2),(1,fk (J8 _ _ _ hm_1))] hQ
theorem Jv (m_:Al)(x:(List Int))(r:Int)(h:EX m_ x=some r):Dr Tryz.prog 84 [.agg [hZ m_.d.Facts,iP m_.d.Stored,iP m_.d.Owner,iP m_.known],hI x] (iP r):=by
 unfold EX at h
 refine vP ⟨[0,1,4],[(1,[9999,0,0,1,2,3,4,5,6,7,8])]⟩ Tryz.func84 follows fun Q hQ=>?_
 obtain⟨x1,hx1,h⟩:=Ad h
 obtain⟨x2,hx2,h⟩:=Ad h
 obtain⟨n_,hn_,h⟩:=Ad h
 cases h
 exact rt 2 [(3,fi Bf hx1),(2,fi Bf hx2),(2,fk (Ji _ _ hn_))] hQ
theorem Ju (m_:Al)(x:(List Int))(r:Int)(h:EW m_ x=some r):Dr Tryz.prog 85 [.agg [hZ m_.d.Facts,iP m_.d.Stored,iP m_.d.Owner,iP m_.known],hI x] (iP r):=by
 unfold EW at h
 refine vP ⟨[0,1,4],[(1,[9999,0,0,1,2,3,4,5,6,7,8])]⟩ Tryz.func85 follows fun Q hQ=>?_
 obtain⟨x1,hx1,h⟩:=Ad h
 obtain⟨x2,hx2,h⟩:=Ad h
 obtain⟨m_1,hm_1,h⟩:=Ad h
 cases h
 exact rt 2 [(3,fi Bf hx1),(2,fi Bf hx2),(2,fk (J8 _ _ _ hm_1))] hQ
theorem Jt (m_:Al)(x:(List Int))(r:Int)(h:EV m_ x=some r):Dr Tryz.prog 86 [.agg [hZ m_.d.Facts,iP m_.d.Stored,iP m_.d.Owner,iP m_.known],hI x] (iP r):=by
 unfold EV at h
 refine vP ⟨[0,1,4],[(1,[9999,0,0,1,2,3,4,5,6,7])]⟩ Tryz.func86 follows fun Q hQ=>?_
 obtain⟨x1,hx1,h⟩:=Ad h
 obtain⟨x2,hx2,h⟩:=Ad h
 cases h
 exact rt 2 [(3,fi Bf hx1),(2,fi Bf hx2)] hQ
theorem Js (m_:Al)(x:(List Int))(r:Int)(h:EU m_ x=some r):Dr Tryz.prog 87 [.agg [hZ m_.d.Facts,iP m_.d.Stored,iP m_.d.Owner,iP m_.known],hI x] (iP r):=by
 unfold EU at h
 refine vP ⟨[0,1,4],[]⟩ Tryz.func87 follows fun Q hQ=>?_
 obtain⟨x1,hx1,h⟩:=Ad h
 cases h
 exact rt 2 [(3,fi Bf hx1)] hQ
theorem Jr (m_:Al)(x:(List Int))(r:Int)(h:ET m_ x=some r):Dr Tryz.prog 88 [.agg [hZ m_.d.Facts,iP m_.d.Stored,iP m_.d.Owner,iP m_.known],hI x] (iP r):=by
 unfold ET at h
 refine vP ⟨[0,1,4],[(1,[9999,0,0,1,2,3,4,5,6,7])]⟩ Tryz.func88 follows fun Q hQ=>?_
 obtain⟨x1,hx1,h⟩:=Ad h
 obtain⟨x2,hx2,h⟩:=Ad h
 cases h
 exact rt 2 [(3,fi Bf hx1),(2,fi Bf hx2)] hQ
theorem II (m_:Al)(x:(List Int))(r:Int)(h:EH m_ x=some r):Dr Tryz.prog 89 [.agg [hZ m_.d.Facts,iP m_.d.Stored,iP m_.d.Owner,iP m_.known],hI x] (iP r):=by
 unfold EH at h
 refine vP ⟨[0,1,4],[(1,[9999,0,0,1,2,3,4,5,6,7])]⟩ Tryz.func89 follows fun Q hQ=>?_
 obtain⟨x1,hx1,h⟩:=Ad h
 obtain⟨x2,hx2,h⟩:=Ad h
 cases h
 exact rt 2 [(3,fi Bf hx1),(2,fi Bf hx2)] hQ
theorem IH (m_:Al)(x:(List Int))(r:Int)(h:EG m_ x=some r):Dr Tryz.prog 90 [.agg [hZ m_.d.Facts,iP m_.d.Stored,iP m_.d.Owner,iP m_.known],hI x] (iP r):=by
 unfold EG at h
 refine vP ⟨[0,1,4],[]⟩ Tryz.func90 follows fun Q hQ=>?_
 obtain⟨x1,hx1,h⟩:=Ad h
 obtain⟨d,hd,h⟩:=Ad h
 cases h
 exact rt 2 [(3,fi Bf hx1),(1,fk (Lm _ _ hd))] hQ
theorem IG (m_:Al)(x:(List Int))(r:Int)(h:EF m_ x=some r):Dr Tryz.prog 92 [.agg [hZ m_.d.Facts,iP m_.d.Stored,iP m_.d.Owner,iP m_.known],hI x] (iP r):=by
 unfold EF at h
 refine vP ⟨[0,1,4],[]⟩ Tryz.func92 follows fun Q hQ=>?_
 obtain⟨x1,hx1,h⟩:=Ad h
 cases h
 exact rt 2 [(3,fi Bf hx1)] hQ
theorem I8 (m_:Al)(x:(List Int))(r:Int)(h:E7 m_ x=some r):Dr Tryz.prog 103 [.agg [hZ m_.d.Facts,iP m_.d.Stored,iP m_.d.Owner,iP m_.known],hI x] (iP r):=by
 unfold E7 at h
 refine vP ⟨[0,1,4],[]⟩ Tryz.func103 follows fun Q hQ=>?_
 obtain⟨x1,hx1,h⟩:=Ad h
 obtain⟨x2,hx2,h⟩:=Ad h
 cases h
 exact rt 2 [(4,fi Bf hx1),(2,fi Bf hx2)] hQ
theorem I7 (m_:Al)(x:(List Int))(r:Int)(h:E6 m_ x=some r):Dr Tryz.prog 104 [.agg [hZ m_.d.Facts,iP m_.d.Stored,iP m_.d.Owner,iP m_.known],hI x] (iP r):=by
 unfold E6 at h
 refine vP ⟨[0,1,4],[(1,[9999,0,0,1,2,3,4,5,6,7])]⟩ Tryz.func104 follows fun Q hQ=>?_
 obtain⟨x1,hx1,h⟩:=Ad h
 obtain⟨x2,hx2,h⟩:=Ad h
 cases h
 exact rt 2 [(3,fi Bf hx1),(2,fi Bf hx2)] hQ
theorem I6 (m_:Al)(x:(List Int))(r:Int)(h:E5 m_ x=some r):Dr Tryz.prog 105 [.agg [hZ m_.d.Facts,iP m_.d.Stored,iP m_.d.Owner,iP m_.known],hI x] (iP r):=by
 unfold E5 at h
 refine vP ⟨[0,1,4],[(1,[9999,0,0,1,2,3,4,5,6,7])]⟩ Tryz.func105 follows fun Q hQ=>?_
 obtain⟨x1,hx1,h⟩:=Ad h
 obtain⟨x2,hx2,h⟩:=Ad h
 cases h
 exact rt 2 [(3,fi Bf hx1),(2,fi Bf hx2)] hQ
theorem IE (a_:Int)(b:Int)(r:Bool)(h:ED a_ b=some r):Dr Tryz.prog 95 [iP a_,iP b] (bP r):=by
 unfold ED at h
 refine vP ⟨[0,1,4],[]⟩ Tryz.func95 follows fun Q hQ=>?_
 cases h
 exact rt 2 [] hQ
theorem ID (a_:Int)(b:Int)(r:Bool)(h:EC a_ b=some r):Dr Tryz.prog 96 [iP a_,iP b] (bP r):=by
 unfold EC at h
 refine vP ⟨[0,1,4],[]⟩ Tryz.func96 follows fun Q hQ=>?_
 cases h
 exact rt 2 [] hQ
theorem IC (a_:Int)(b:Int)(r:Bool)(h:EB a_ b=some r):Dr Tryz.prog 97 [iP a_,iP b] (bP r):=by
 unfold EB at h
 refine vP ⟨[0,1,4],[]⟩ Tryz.func97 follows fun Q hQ=>?_
 cases h
 exact rt 2 [] hQ
theorem IB (a_:Int)(b:Int)(r:Bool)(h:EA a_ b=some r):Dr Tryz.prog 98 [iP a_,iP b] (bP r):=by
 unfold EA at h
 refine vP ⟨[0,1,4],[]⟩ Tryz.func98 follows fun Q hQ=>?_
 cases h
 exact rt 2 [] hQ
theorem IA (a_:Int)(b:Int)(r:Bool)(h:E9 a_ b=some r):Dr Tryz.prog 99 [iP a_,iP b] (bP r):=by
 unfold E9 at h
 refine vP ⟨[0,1,4],[]⟩ Tryz.func99 follows fun Q hQ=>?_
 cases h
 exact rt 2 [] hQ
theorem I9 (a_:Int)(b:Int)(r:Bool)(h:E8 a_ b=some r):Dr Tryz.prog 100 [iP a_,iP b] (bP r):=by
 unfold E8 at h
 refine vP ⟨[0,1,4],[]⟩ Tryz.func100 follows fun Q hQ=>?_
 cases h
 exact rt 2 [] hQ
theorem KK (n:Nat)(m_:Al)(kind:Int)(who:Int)(r:Int)(h:C2 n m_ kind who=some r):Dr Tryz.prog 94 [.agg [hZ m_.d.Facts,iP m_.d.Stored,iP m_.d.Owner,iP m_.known],iP kind,iP who] (iP r):=by
 unfold C2 at h
 refine vP ⟨[0,1,2,3,6,7,8,9,12,13,14,15,51,55],[(5,[9999,0,0,1,2,3,4,5,6,7,8,9,10,11,12,13,14,15,16,17,18,19,20,21,22,23,24,25,26,27,28,29,30,31,32])]⟩ Tryz.func94 follows fun Q hQ=>?_
 refine mE 3 [(6,fl Ej m_.d.Facts)] h (fun best=>⟨[(3,.ptr 0 0),(6,iP 0),(7,iP best)],[[hZ m_.d.Facts,iP m_.d.Stored,iP m_.d.Owner,iP m_.known]]⟩) ?_ fun y e hJ=>?_
 rintro best h
 refine cD 1 [] h (fun hc h=>?_) fun hc h=>?_
 cases h
 exact rt 1 [] hQ
 obtain⟨x,hx,h⟩:=Ad h
 cases h
 exact rt 1 [(4,fi Ej hx)] hQ
 refine lF 1 [] (A:=(Int×Int)) (fun n (best1,v14)=>Bv n m_ kind who best1 v14) (fun (best1,v14)=>⟨[(1,iP kind),(2,iP who),(3,.ptr 0 0),(6,iP 0),(7,iP best1),(12,hZ m_.d.Facts),(13,iP (m_.d.Facts.length:Int)),(14,iP v14)],[[hZ m_.d.Facts,iP m_.d.Stored,iP m_.d.Owner,iP m_.known]]⟩) (-1,0) e (fun _=>rfl) ?_
 rintro n ⟨best1,v14⟩ e ih
 replace e:=(Bv.eq_2 ..).symm.trans e
 refine cD 1 [] e (fun hc6 e=>?_) fun hc6 e=>?_
 obtain⟨x1,hx1,e⟩:=Ad e
 refine mE 2 [(1,fi Ej hx1)] e (fun v51=>⟨[(1,iP kind),(2,iP who),(3,.ptr 0 0),(6,iP 0),(7,iP best1),(8,iP v14),(12,hZ m_.d.Facts),(13,iP (m_.d.Facts.length:Int)),(14,iP v14),(51,bP v51)],[[hZ m_.d.Facts,iP m_.d.Stored,iP m_.d.Owner,iP m_.known],[iP x1.Kind,iP x1.Who,iP x1.Day,iP x1.Known]]⟩) ?_ fun y1 e1 hJ1=>?_
 rintro v51 e
 refine cD 0 [] e (fun hc1 e=>?_) fun hc1 e=>?_
 exact mJ 2 [] (ih (_,_) e)
 exact mJ 1 [] (ih (_,_) e)
 rcases Ai e1 with⟨hc2,e1⟩|⟨hc2,e1⟩
 rcases Ai e1 with⟨hc3,e1⟩|⟨hc3,e1⟩
 rcases Ai e1 with⟨hc4,e1⟩|⟨hc4,e1⟩
 rcases Ai e1 with⟨hc5,e1⟩|⟨hc5,e1⟩
 exact mJ 1 [(4,fo hc2),(5,fo hc3),(6,fo hc4),(2,fo hc5)] (hJ1 _ (oj e1))
 obtain⟨x2,hx2,e1⟩:=Ad e1
 exact mJ 1 [(4,fo hc2),(5,fo hc3),(6,fo hc4),(2,fo hc5),(6,fi Ej hx2)] (hJ1 _ (oj e1))
 exact mJ 1 [(4,fo hc2),(5,fo hc3),(6,fo hc4)] (hJ1 _ (oj e1))
 exact mJ 1 [(4,fo hc2),(5,fo hc3)] (hJ1 _ (oj e1))
 exact mJ 1 [(4,fo hc2)] (hJ1 _ (oj e1))
 exact mJ 1 [] (hJ _ (oj e))
theorem E0 (b:Bool)(r:Int)(h:Dc b=some r):Dr Tryz.prog 102 [bP b] (iP r):=by
 unfold Dc at h
 refine vP ⟨[0,2,3],[]⟩ Tryz.func102 follows fun Q hQ=>?_
 refine cD 2 [] h (fun hc h=>?_) fun hc h=>?_
 cases h
 exact rt 1 [] hQ
 cases h
 exact rt 1 [] hQ
theorem IF (n:Nat)(k:Int)(m_:Al)(x:(List Int))(r:Int)(h:EE n k m_ x=some r):Dr Tryz.prog 93 [.agg [hZ m_.d.Facts,iP m_.d.Stored,iP m_.d.Owner,iP m_.known],hI x,.vptr [iP k] 0] (iP r):=by
 unfold EE at h
 refine vP ⟨[0,1,2,3,5],[(1,[9999,0,0,1,2,3,4,5,6,7])]⟩ Tryz.func93 follows fun Q hQ=>?_
 obtain⟨x1,hx1,h⟩:=Ad h
 obtain⟨f,hf,h⟩:=Ad h
 cases h
 exact rt 2 [(6,fi Bf hx1),(1,fk (KK _ _ _ _ _ hf))] hQ
theorem HR (m_:Al)(x:(List Int))(r:Int)(h:DN m_ x=some r):Dr Tryz.prog 101 [.agg [hZ m_.d.Facts,iP m_.d.Stored,iP m_.d.Owner,iP m_.known],hI x,.vptr [.fno true 95 []] 0] (iP r):=by
 unfold DN at h
 refine vP ⟨[0,1,2,5],[(1,[9999,0,0,1,2,3,4,5,6,7,8,9])]⟩ Tryz.func101 follows fun Q hQ=>?_
 obtain⟨x1,hx1,h⟩:=Ad h
 obtain⟨x2,hx2,h⟩:=Ad h
 obtain⟨o_,ho_,h⟩:=Ad h
 obtain⟨f,hf,h⟩:=Ad h
 cases h
 exact rt 2 [(4,fi Bf hx1),(2,fi Bf hx2),(1,fk (IE _ _ _ ho_)),(0,fk (E0 _ _ hf))] hQ
theorem HQ (m_:Al)(x:(List Int))(r:Int)(h:DM m_ x=some r):Dr Tryz.prog 101 [.agg [hZ m_.d.Facts,iP m_.d.Stored,iP m_.d.Owner,iP m_.known],hI x,.vptr [.fno true 96 []] 0] (iP r):=by
 unfold DM at h
 refine vP ⟨[0,1,2,5],[(1,[9999,0,0,1,2,3,4,5,6,7,8,9])]⟩ Tryz.func101 follows fun Q hQ=>?_
 obtain⟨x1,hx1,h⟩:=Ad h
 obtain⟨x2,hx2,h⟩:=Ad h
 obtain⟨o_,ho_,h⟩:=Ad h
 obtain⟨f,hf,h⟩:=Ad h
 cases h
 exact rt 2 [(4,fi Bf hx1),(2,fi Bf hx2),(1,fk (ID _ _ _ ho_)),(0,fk (E0 _ _ hf))] hQ
theorem HP (m_:Al)(x:(List Int))(r:Int)(h:DL m_ x=some r):Dr Tryz.prog 101 [.agg [hZ m_.d.Facts,iP m_.d.Stored,iP m_.d.Owner,iP m_.known],hI x,.vptr [.fno true 97 []] 0] (iP r):=by
 unfold DL at h
 refine vP ⟨[0,1,2,5],[(1,[9999,0,0,1,2,3,4,5,6,7,8,9])]⟩ Tryz.func101 follows fun Q hQ=>?_
 obtain⟨x1,hx1,h⟩:=Ad h
 obtain⟨x2,hx2,h⟩:=Ad h
 obtain⟨o_,ho_,h⟩:=Ad h
 obtain⟨f,hf,h⟩:=Ad h
 cases h
 exact rt 2 [(4,fi Bf hx1),(2,fi Bf hx2),(1,fk (IC _ _ _ ho_)),(0,fk (E0 _ _ hf))] hQ
theorem HO (m_:Al)(x:(List Int))(r:Int)(h:DK m_ x=some r):Dr Tryz.prog 101 [.agg [hZ m_.d.Facts,iP m_.d.Stored,iP m_.d.Owner,iP m_.known],hI x,.vptr [.fno true 98 []] 0] (iP r):=by
 unfold DK at h
 refine vP ⟨[0,1,2,5],[(1,[9999,0,0,1,2,3,4,5,6,7,8,9])]⟩ Tryz.func101 follows fun Q hQ=>?_
 obtain⟨x1,hx1,h⟩:=Ad h
 obtain⟨x2,hx2,h⟩:=Ad h
 obtain⟨o_,ho_,h⟩:=Ad h
 obtain⟨f,hf,h⟩:=Ad h
 cases h
 exact rt 2 [(4,fi Bf hx1),(2,fi Bf hx2),(1,fk (IB _ _ _ ho_)),(0,fk (E0 _ _ hf))] hQ
theorem HN (m_:Al)(x:(List Int))(r:Int)(h:DJ m_ x=some r):Dr Tryz.prog 101 [.agg [hZ m_.d.Facts,iP m_.d.Stored,iP m_.d.Owner,iP m_.known],hI x,.vptr [.fno true 99 []] 0] (iP r):=by
 unfold DJ at h
 refine vP ⟨[0,1,2,5],[(1,[9999,0,0,1,2,3,4,5,6,7,8,9])]⟩ Tryz.func101 follows fun Q hQ=>?_
 obtain⟨x1,hx1,h⟩:=Ad h
 obtain⟨x2,hx2,h⟩:=Ad h
 obtain⟨o_,ho_,h⟩:=Ad h
 obtain⟨f,hf,h⟩:=Ad h
 cases h
 exact rt 2 [(4,fi Bf hx1),(2,fi Bf hx2),(1,fk (IA _ _ _ ho_)),(0,fk (E0 _ _ hf))] hQ
theorem Hy (m_:Al)(x:(List Int))(r:Int)(h:D4 m_ x=some r):Dr Tryz.prog 101 [.agg [hZ m_.d.Facts,iP m_.d.Stored,iP m_.d.Owner,iP m_.known],hI x,.vptr [.fno true 100 []] 0] (iP r):=by
 unfold D4 at h
 refine vP ⟨[0,1,2,5],[(1,[9999,0,0,1,2,3,4,5,6,7,8,9])]⟩ Tryz.func101 follows fun Q hQ=>?_
 obtain⟨x1,hx1,h⟩:=Ad h
 obtain⟨x2,hx2,h⟩:=Ad h
 obtain⟨o_,ho_,h⟩:=Ad h
 obtain⟨f,hf,h⟩:=Ad h
 cases h
 exact rt 2 [(4,fi Bf hx1),(2,fi Bf hx2),(1,fk (I9 _ _ _ ho_)),(0,fk (E0 _ _ hf))] hQ
end Go.Proofs.YtkcfmlfkfagejaaGreatDoor
