/-
  The walks of chapter 33: the operations: the program computes the plain functions. (Printed by lift.py.)
-/
import Derived.Test.YtkcfmlfkfagejaaGreatDoorU7
import Derived.Test.YtkcfmlfkfagejaaGreatDoorU12
import Derived.Test.YtkcfmlfkfagejaaGreatDoorU25
set_option linter.unusedVariables false
set_option linter.unusedSimpArgs false
namespace Go.Proofs.YtkcfmlfkfagejaaGreatDoor
open Go.RowKit Go.Q Go.Vl Go.Sp
set_option maxRecDepth 100000
set_option linter.unusedSimpArgs false
set_option maxHeartbeats 4000000
set_option linter.unusedVariables false
theorem Lc (m_:Al)(x:(List Int))(r:Int)(h:FJ m_ x=some r):CZ Tryz.prog 77 [.agg [hZ m_.d.Facts,iP m_.d.Stored,iP m_.d.Owner,iP m_.known],hI x] (iP r):=by
 unfold FJ at h
 refine vP ⟨[0,1,4],[]⟩ Tryz.func77 follows fun Q hQ=>?_
 obtain⟨x1,hx1,h⟩:=Ad h
 cases h
 exact rt 2 [(3,fi Bd hx1)] hQ
theorem On (x:Int)(y:Int)(r:(Int×Int))(h:EZ x y=some r):CZ Tryz.prog 131 [.lit (.int .u64 x),.lit (.int .u64 y)] (.tup [.lit (.int .u64 r.1),.lit (.int .u64 r.2)]):=by
 unfold EZ at h
 refine vP ⟨[0,1,4,5,6,7,8,9,10,11,12,13],[]⟩ Tryz.func131 follows fun Q hQ=>?_
 cases h
 exact rt 12 [] hQ
theorem Qg (a_:Int)(b:Int)(r:Int)(h:DB a_ b=some r):CZ Tryz.prog 79 [iP a_,iP b] (iP r):=by
 unfold DB at h
 refine vP ⟨[0,1,4,5,6,7,27,34],[]⟩ Tryz.func79 follows fun Q hQ=>?_
 obtain⟨m_,hm_,h⟩:=Ad h
 refine mE 3 [(11,fk (On _ _ _ hm_))] h (fun v27=>⟨[(0,iP a_),(1,iP b),(4,iP 0),(6,.lit (.int .u64 m_.2)),(7,iP 999999999999999),(27,bP v27)],[]⟩) ?_ fun y e hJ=>?_
 rintro v27 h
 refine mE 0 [] h (fun n_=>⟨[(0,iP a_),(1,iP b),(4,iP 0),(7,iP n_)],[]⟩) ?_ fun y1 e1 hJ1=>?_
 rintro n_ h
 refine cD 1 [] h (fun hc h=>?_) fun hc h=>?_
 cases h
 exact rt 1 [] hQ
 cases h
 exact rt 1 [] hQ
 refine cD 0 [] e1 (fun hc1 e1=>?_) fun hc1 e1=>?_
 exact mJ 1 [] (hJ1 _ (oj e1))
 exact mJ 0 [] (hJ1 _ (oj e1))
 rcases An e with⟨hc2,e⟩|⟨hc2,e⟩
 exact mJ 1 [(2,fo hc2)] (hJ _ (oj e))
 exact mJ 1 [(2,fo hc2)] (hJ _ (oj e))
theorem Lb (m_:Al)(x:(List Int))(r:Int)(h:FI m_ x=some r):CZ Tryz.prog 78 [.agg [hZ m_.d.Facts,iP m_.d.Stored,iP m_.d.Owner,iP m_.known],hI x] (iP r):=by
 unfold FI at h
 refine vP ⟨[0,1,4],[(1,[9999,0,0,1,2,3,4,5,6,7])]⟩ Tryz.func78 follows fun Q hQ=>?_
 obtain⟨x1,hx1,h⟩:=Ad h
 obtain⟨x2,hx2,h⟩:=Ad h
 obtain⟨t,ht,h⟩:=Ad h
 cases h
 exact rt 2 [(3,fi Bd hx1),(2,fi Bd hx2),(1,fk (Qg _ _ _ ht))] hQ
theorem KG (n_:Int)(r:Int)(h:Di n_=some r):CZ Tryz.prog 81 [iP n_] (iP r):=by
 unfold Di at h
 refine vP ⟨[0,2],[]⟩ Tryz.func81 follows fun Q hQ=>?_
 cases h
 exact rt 2 [] hQ
theorem La (m_:Al)(x:(List Int))(r:Int)(h:FH m_ x=some r):CZ Tryz.prog 80 [.agg [hZ m_.d.Facts,iP m_.d.Stored,iP m_.d.Owner,iP m_.known],hI x] (iP r):=by
 unfold FH at h
 refine vP ⟨[0,1,4],[(1,[9999,0,0,1,2,3,4,5,6,7,8])]⟩ Tryz.func80 follows fun Q hQ=>?_
 obtain⟨x1,hx1,h⟩:=Ad h
 obtain⟨x2,hx2,h⟩:=Ad h
 obtain⟨n_,hn_,h⟩:=Ad h
 cases h
 exact rt 2 [(3,fi Bd hx1),(2,fi Bd hx2),(2,fk (KG _ _ hn_))] hQ
theorem Nx (n_:Int)(r:Int)(h:FK n_=some r):CZ Tryz.prog 91 [iP n_] (iP r):=by
 unfold FK at h
 refine vP ⟨[0,2],[]⟩ Tryz.func91 follows fun Q hQ=>?_
 cases h
 exact rt 2 [] hQ
theorem Ll (d:Int)(n_:Int)(r:Int)(h:DC d n_=some r):CZ Tryz.prog 83 [iP d,iP n_] (iP r):=by
 unfold DC at h
 refine vP ⟨[0,1,4,6],[]⟩ Tryz.func83 follows fun Q hQ=>?_
 refine cD 2 [] h (fun hc h=>?_) fun hc h=>?_
 cases h
 exact rt 1 [] hQ
 obtain⟨d1,hd1,h⟩:=Ad h
 cases h
 exact rt 1 [(3,fk (Nx _ _ hd1))] hQ
theorem KZ (m_:Al)(x:(List Int))(r:Int)(h:FG m_ x=some r):CZ Tryz.prog 82 [.agg [hZ m_.d.Facts,iP m_.d.Stored,iP m_.d.Owner,iP m_.known],hI x] (iP r):=by
 unfold FG at h
 refine vP ⟨[0,1,4],[(1,[9999,0,0,1,2,3,4,5,6,7])]⟩ Tryz.func82 follows fun Q hQ=>?_
 obtain⟨x1,hx1,h⟩:=Ad h
 obtain⟨x2,hx2,h⟩:=Ad h
 obtain⟨m_1,hm_1,h⟩:=Ad h
 cases h
 exact rt 2 [(3,fi Bd hx1),(2,fi Bd hx2),(1,fk (Ll _ _ _ hm_1))] hQ
theorem KY (m_:Al)(x:(List Int))(r:Int)(h:FF m_ x=some r):CZ Tryz.prog 84 [.agg [hZ m_.d.Facts,iP m_.d.Stored,iP m_.d.Owner,iP m_.known],hI x] (iP r):=by
 unfold FF at h
 refine vP ⟨[0,1,4],[(1,[9999,0,0,1,2,3,4,5,6,7,8])]⟩ Tryz.func84 follows fun Q hQ=>?_
 obtain⟨x1,hx1,h⟩:=Ad h
 obtain⟨x2,hx2,h⟩:=Ad h
 obtain⟨n_,hn_,h⟩:=Ad h
 cases h
 exact rt 2 [(3,fi Bd hx1),(2,fi Bd hx2),(2,fk (KG _ _ hn_))] hQ
theorem KW (m_:Al)(x:(List Int))(r:Int)(h:FE m_ x=some r):CZ Tryz.prog 85 [.agg [hZ m_.d.Facts,iP m_.d.Stored,iP m_.d.Owner,iP m_.known],hI x] (iP r):=by
 unfold FE at h
 refine vP ⟨[0,1,4],[(1,[9999,0,0,1,2,3,4,5,6,7,8])]⟩ Tryz.func85 follows fun Q hQ=>?_
 obtain⟨x1,hx1,h⟩:=Ad h
 obtain⟨x2,hx2,h⟩:=Ad h
 obtain⟨m_1,hm_1,h⟩:=Ad h
 cases h
 exact rt 2 [(3,fi Bd hx1),(2,fi Bd hx2),(2,fk (Ll _ _ _ hm_1))] hQ
theorem KV (m_:Al)(x:(List Int))(r:Int)(h:FD m_ x=some r):CZ Tryz.prog 86 [.agg [hZ m_.d.Facts,iP m_.d.Stored,iP m_.d.Owner,iP m_.known],hI x] (iP r):=by
 unfold FD at h
 refine vP ⟨[0,1,4],[(1,[9999,0,0,1,2,3,4,5,6,7])]⟩ Tryz.func86 follows fun Q hQ=>?_
 obtain⟨x1,hx1,h⟩:=Ad h
 obtain⟨x2,hx2,h⟩:=Ad h
 cases h
 exact rt 2 [(3,fi Bd hx1),(2,fi Bd hx2)] hQ
theorem KU (m_:Al)(x:(List Int))(r:Int)(h:FC m_ x=some r):CZ Tryz.prog 87 [.agg [hZ m_.d.Facts,iP m_.d.Stored,iP m_.d.Owner,iP m_.known],hI x] (iP r):=by
 unfold FC at h
 refine vP ⟨[0,1,4],[]⟩ Tryz.func87 follows fun Q hQ=>?_
 obtain⟨x1,hx1,h⟩:=Ad h
 cases h
 exact rt 2 [(3,fi Bd hx1)] hQ
theorem KS (m_:Al)(x:(List Int))(r:Int)(h:FB m_ x=some r):CZ Tryz.prog 88 [.agg [hZ m_.d.Facts,iP m_.d.Stored,iP m_.d.Owner,iP m_.known],hI x] (iP r):=by
 unfold FB at h
 refine vP ⟨[0,1,4],[(1,[9999,0,0,1,2,3,4,5,6,7])]⟩ Tryz.func88 follows fun Q hQ=>?_
 obtain⟨x1,hx1,h⟩:=Ad h
 obtain⟨x2,hx2,h⟩:=Ad h
 cases h
 exact rt 2 [(3,fi Bd hx1),(2,fi Bd hx2)] hQ
theorem Km (m_:Al)(x:(List Int))(r:Int)(h:Fv m_ x=some r):CZ Tryz.prog 89 [.agg [hZ m_.d.Facts,iP m_.d.Stored,iP m_.d.Owner,iP m_.known],hI x] (iP r):=by
 unfold Fv at h
 refine vP ⟨[0,1,4],[(1,[9999,0,0,1,2,3,4,5,6,7])]⟩ Tryz.func89 follows fun Q hQ=>?_
 obtain⟨x1,hx1,h⟩:=Ad h
 obtain⟨x2,hx2,h⟩:=Ad h
 cases h
 exact rt 2 [(3,fi Bd hx1),(2,fi Bd hx2)] hQ
theorem Kl (m_:Al)(x:(List Int))(r:Int)(h:Fu m_ x=some r):CZ Tryz.prog 90 [.agg [hZ m_.d.Facts,iP m_.d.Stored,iP m_.d.Owner,iP m_.known],hI x] (iP r):=by
 unfold Fu at h
 refine vP ⟨[0,1,4],[]⟩ Tryz.func90 follows fun Q hQ=>?_
 obtain⟨x1,hx1,h⟩:=Ad h
 obtain⟨d,hd,h⟩:=Ad h
 cases h
 exact rt 2 [(3,fi Bd hx1),(1,fk (Nx _ _ hd))] hQ
theorem Kk (m_:Al)(x:(List Int))(r:Int)(h:Ft m_ x=some r):CZ Tryz.prog 92 [.agg [hZ m_.d.Facts,iP m_.d.Stored,iP m_.d.Owner,iP m_.known],hI x] (iP r):=by
 unfold Ft at h
 refine vP ⟨[0,1,4],[]⟩ Tryz.func92 follows fun Q hQ=>?_
 obtain⟨x1,hx1,h⟩:=Ad h
 cases h
 exact rt 2 [(3,fi Bd hx1)] hQ
theorem Kc (m_:Al)(x:(List Int))(r:Int)(h:Fj m_ x=some r):CZ Tryz.prog 103 [.agg [hZ m_.d.Facts,iP m_.d.Stored,iP m_.d.Owner,iP m_.known],hI x] (iP r):=by
 unfold Fj at h
 refine vP ⟨[0,1,4],[]⟩ Tryz.func103 follows fun Q hQ=>?_
 obtain⟨x1,hx1,h⟩:=Ad h
 obtain⟨x2,hx2,h⟩:=Ad h
 cases h
 exact rt 2 [(4,fi Bd hx1),(2,fi Bd hx2)] hQ
theorem Kb (m_:Al)(x:(List Int))(r:Int)(h:Fi m_ x=some r):CZ Tryz.prog 104 [.agg [hZ m_.d.Facts,iP m_.d.Stored,iP m_.d.Owner,iP m_.known],hI x] (iP r):=by
 unfold Fi at h
 refine vP ⟨[0,1,4],[(1,[9999,0,0,1,2,3,4,5,6,7])]⟩ Tryz.func104 follows fun Q hQ=>?_
 obtain⟨x1,hx1,h⟩:=Ad h
 obtain⟨x2,hx2,h⟩:=Ad h
 cases h
 exact rt 2 [(3,fi Bd hx1),(2,fi Bd hx2)] hQ
theorem Ka (m_:Al)(x:(List Int))(r:Int)(h:Fh m_ x=some r):CZ Tryz.prog 105 [.agg [hZ m_.d.Facts,iP m_.d.Stored,iP m_.d.Owner,iP m_.known],hI x] (iP r):=by
 unfold Fh at h
 refine vP ⟨[0,1,4],[(1,[9999,0,0,1,2,3,4,5,6,7])]⟩ Tryz.func105 follows fun Q hQ=>?_
 obtain⟨x1,hx1,h⟩:=Ad h
 obtain⟨x2,hx2,h⟩:=Ad h
 cases h
 exact rt 2 [(3,fi Bd hx1),(2,fi Bd hx2)] hQ
theorem Ki (a_:Int)(b:Int)(r:Bool)(h:Fq a_ b=some r):CZ Tryz.prog 95 [iP a_,iP b] (bP r):=by
 unfold Fq at h
 refine vP ⟨[0,1,4],[]⟩ Tryz.func95 follows fun Q hQ=>?_
 cases h
 exact rt 2 [] hQ
theorem Kh (a_:Int)(b:Int)(r:Bool)(h:Fp a_ b=some r):CZ Tryz.prog 96 [iP a_,iP b] (bP r):=by
 unfold Fp at h
 refine vP ⟨[0,1,4],[]⟩ Tryz.func96 follows fun Q hQ=>?_
 cases h
 exact rt 2 [] hQ
theorem Kg (a_:Int)(b:Int)(r:Bool)(h:Fo a_ b=some r):CZ Tryz.prog 97 [iP a_,iP b] (bP r):=by
 unfold Fo at h
 refine vP ⟨[0,1,4],[]⟩ Tryz.func97 follows fun Q hQ=>?_
 cases h
 exact rt 2 [] hQ
theorem Kf (a_:Int)(b:Int)(r:Bool)(h:Fm a_ b=some r):CZ Tryz.prog 98 [iP a_,iP b] (bP r):=by
 unfold Fm at h
 refine vP ⟨[0,1,4],[]⟩ Tryz.func98 follows fun Q hQ=>?_
 cases h
 exact rt 2 [] hQ
theorem Ke (a_:Int)(b:Int)(r:Bool)(h:Fl a_ b=some r):CZ Tryz.prog 99 [iP a_,iP b] (bP r):=by
 unfold Fl at h
 refine vP ⟨[0,1,4],[]⟩ Tryz.func99 follows fun Q hQ=>?_
 cases h
 exact rt 2 [] hQ
theorem Kd (a_:Int)(b:Int)(r:Bool)(h:Fk a_ b=some r):CZ Tryz.prog 100 [iP a_,iP b] (bP r):=by
 unfold Fk at h
 refine vP ⟨[0,1,4],[]⟩ Tryz.func100 follows fun Q hQ=>?_
 cases h
 exact rt 2 [] hQ
theorem MQ (n:Nat)(m_:Al)(kind:Int)(who:Int)(r:Int)(h:CK n m_ kind who=some r):CZ Tryz.prog 94 [.agg [hZ m_.d.Facts,iP m_.d.Stored,iP m_.d.Owner,iP m_.known],iP kind,iP who] (iP r):=by
 unfold CK at h
 refine vP ⟨[0,1,2,3,6,7,8,9,12,13,14,15,51,55],[(5,[9999,0,0,1,2,3,4,5,6,7,8,9,10,11,12,13,14,15,16,17,18,19,20,21,22,23,24,25,26,27,28,29,30,31,32])]⟩ Tryz.func94 follows fun Q hQ=>?_
 refine mE 3 [(6,fl EJ m_.d.Facts)] h (fun best=>⟨[(3,.ptr 0 0),(6,iP 0),(7,iP best)],[[hZ m_.d.Facts,iP m_.d.Stored,iP m_.d.Owner,iP m_.known]]⟩) ?_ fun y e hJ=>?_
 rintro best h
 refine cD 1 [] h (fun hc h=>?_) fun hc h=>?_
 cases h
 exact rt 1 [] hQ
 obtain⟨x,hx,h⟩:=Ad h
 cases h
 exact rt 1 [(4,fi EJ hx)] hQ
 refine lF 1 [] (A:=(Int×Int)) (fun n (best1,v14)=>Bs n m_ kind who best1 v14) (fun (best1,v14)=>⟨[(1,iP kind),(2,iP who),(3,.ptr 0 0),(6,iP 0),(7,iP best1),(12,hZ m_.d.Facts),(13,iP (m_.d.Facts.length:Int)),(14,iP v14)],[[hZ m_.d.Facts,iP m_.d.Stored,iP m_.d.Owner,iP m_.known]]⟩) (-1,0) e (fun _=>rfl) ?_
 rintro n ⟨best1,v14⟩ e ih
 replace e:=(Bs.eq_2 ..).symm.trans e
 refine cD 1 [] e (fun hc6 e=>?_) fun hc6 e=>?_
 obtain⟨x1,hx1,e⟩:=Ad e
 refine mE 2 [(1,fi EJ hx1)] e (fun v51=>⟨[(1,iP kind),(2,iP who),(3,.ptr 0 0),(6,iP 0),(7,iP best1),(8,iP v14),(12,hZ m_.d.Facts),(13,iP (m_.d.Facts.length:Int)),(14,iP v14),(51,bP v51)],[[hZ m_.d.Facts,iP m_.d.Stored,iP m_.d.Owner,iP m_.known],[iP x1.Kind,iP x1.Who,iP x1.Day,iP x1.Known]]⟩) ?_ fun y1 e1 hJ1=>?_
 rintro v51 e
 refine cD 0 [] e (fun hc1 e=>?_) fun hc1 e=>?_
 exact mJ 2 [] (ih (_,_) e)
 exact mJ 1 [] (ih (_,_) e)
 rcases An e1 with⟨hc2,e1⟩|⟨hc2,e1⟩
 rcases An e1 with⟨hc3,e1⟩|⟨hc3,e1⟩
 rcases An e1 with⟨hc4,e1⟩|⟨hc4,e1⟩
 rcases An e1 with⟨hc5,e1⟩|⟨hc5,e1⟩
 exact mJ 1 [(4,fo hc2),(5,fo hc3),(6,fo hc4),(2,fo hc5)] (hJ1 _ (oj e1))
 obtain⟨x2,hx2,e1⟩:=Ad e1
 exact mJ 1 [(4,fo hc2),(5,fo hc3),(6,fo hc4),(2,fo hc5),(6,fi EJ hx2)] (hJ1 _ (oj e1))
 exact mJ 1 [(4,fo hc2),(5,fo hc3),(6,fo hc4)] (hJ1 _ (oj e1))
 exact mJ 1 [(4,fo hc2),(5,fo hc3)] (hJ1 _ (oj e1))
 exact mJ 1 [(4,fo hc2)] (hJ1 _ (oj e1))
 exact mJ 1 [] (hJ _ (oj e))
theorem Fc (b:Bool)(r:Int)(h:D7 b=some r):CZ Tryz.prog 102 [bP b] (iP r):=by
 unfold D7 at h
 refine vP ⟨[0,2,3],[]⟩ Tryz.func102 follows fun Q hQ=>?_
 refine cD 2 [] h (fun hc h=>?_) fun hc h=>?_
 cases h
 exact rt 1 [] hQ
 cases h
 exact rt 1 [] hQ
theorem Kj (n:Nat)(k:Int)(m_:Al)(x:(List Int))(r:Int)(h:Fs n k m_ x=some r):CZ Tryz.prog 93 [.agg [hZ m_.d.Facts,iP m_.d.Stored,iP m_.d.Owner,iP m_.known],hI x,.vptr [iP k] 0] (iP r):=by
 unfold Fs at h
 refine vP ⟨[0,1,2,3,5],[(1,[9999,0,0,1,2,3,4,5,6,7])]⟩ Tryz.func93 follows fun Q hQ=>?_
 obtain⟨x1,hx1,h⟩:=Ad h
 obtain⟨f,hf,h⟩:=Ad h
 cases h
 exact rt 2 [(6,fi Bd hx1),(1,fk (MQ _ _ _ _ _ hf))] hQ
theorem Jc (m_:Al)(x:(List Int))(r:Int)(h:Eu m_ x=some r):CZ Tryz.prog 101 [.agg [hZ m_.d.Facts,iP m_.d.Stored,iP m_.d.Owner,iP m_.known],hI x,.vptr [.fno true 95 []] 0] (iP r):=by
 unfold Eu at h
 refine vP ⟨[0,1,2,5],[(1,[9999,0,0,1,2,3,4,5,6,7,8,9])]⟩ Tryz.func101 follows fun Q hQ=>?_
 obtain⟨x1,hx1,h⟩:=Ad h
 obtain⟨x2,hx2,h⟩:=Ad h
 obtain⟨o_,ho_,h⟩:=Ad h
 obtain⟨f,hf,h⟩:=Ad h
 cases h
 exact rt 2 [(4,fi Bd hx1),(2,fi Bd hx2),(1,fk (Ki _ _ _ ho_)),(0,fk (Fc _ _ hf))] hQ
theorem Jb (m_:Al)(x:(List Int))(r:Int)(h:Et m_ x=some r):CZ Tryz.prog 101 [.agg [hZ m_.d.Facts,iP m_.d.Stored,iP m_.d.Owner,iP m_.known],hI x,.vptr [.fno true 96 []] 0] (iP r):=by
 unfold Et at h
 refine vP ⟨[0,1,2,5],[(1,[9999,0,0,1,2,3,4,5,6,7,8,9])]⟩ Tryz.func101 follows fun Q hQ=>?_
 obtain⟨x1,hx1,h⟩:=Ad h
 obtain⟨x2,hx2,h⟩:=Ad h
 obtain⟨o_,ho_,h⟩:=Ad h
 obtain⟨f,hf,h⟩:=Ad h
 cases h
 exact rt 2 [(4,fi Bd hx1),(2,fi Bd hx2),(1,fk (Kh _ _ _ ho_)),(0,fk (Fc _ _ hf))] hQ
theorem Ja (m_:Al)(x:(List Int))(r:Int)(h:Es m_ x=some r):CZ Tryz.prog 101 [.agg [hZ m_.d.Facts,iP m_.d.Stored,iP m_.d.Owner,iP m_.known],hI x,.vptr [.fno true 97 []] 0] (iP r):=by
 unfold Es at h
 refine vP ⟨[0,1,2,5],[(1,[9999,0,0,1,2,3,4,5,6,7,8,9])]⟩ Tryz.func101 follows fun Q hQ=>?_
 obtain⟨x1,hx1,h⟩:=Ad h
 obtain⟨x2,hx2,h⟩:=Ad h
 obtain⟨o_,ho_,h⟩:=Ad h
 obtain⟨f,hf,h⟩:=Ad h
 cases h
 exact rt 2 [(4,fi Bd hx1),(2,fi Bd hx2),(1,fk (Kg _ _ _ ho_)),(0,fk (Fc _ _ hf))] hQ
theorem IZ (m_:Al)(x:(List Int))(r:Int)(h:Er m_ x=some r):CZ Tryz.prog 101 [.agg [hZ m_.d.Facts,iP m_.d.Stored,iP m_.d.Owner,iP m_.known],hI x,.vptr [.fno true 98 []] 0] (iP r):=by
 unfold Er at h
 refine vP ⟨[0,1,2,5],[(1,[9999,0,0,1,2,3,4,5,6,7,8,9])]⟩ Tryz.func101 follows fun Q hQ=>?_
 obtain⟨x1,hx1,h⟩:=Ad h
 obtain⟨x2,hx2,h⟩:=Ad h
 obtain⟨o_,ho_,h⟩:=Ad h
 obtain⟨f,hf,h⟩:=Ad h
 cases h
 exact rt 2 [(4,fi Bd hx1),(2,fi Bd hx2),(1,fk (Kf _ _ _ ho_)),(0,fk (Fc _ _ hf))] hQ
theorem IY (m_:Al)(x:(List Int))(r:Int)(h:Ep m_ x=some r):CZ Tryz.prog 101 [.agg [hZ m_.d.Facts,iP m_.d.Stored,iP m_.d.Owner,iP m_.known],hI x,.vptr [.fno true 99 []] 0] (iP r):=by
 unfold Ep at h
 refine vP ⟨[0,1,2,5],[(1,[9999,0,0,1,2,3,4,5,6,7,8,9])]⟩ Tryz.func101 follows fun Q hQ=>?_
 obtain⟨x1,hx1,h⟩:=Ad h
 obtain⟨x2,hx2,h⟩:=Ad h
 obtain⟨o_,ho_,h⟩:=Ad h
 obtain⟨f,hf,h⟩:=Ad h
 cases h
 exact rt 2 [(4,fi Bd hx1),(2,fi Bd hx2),(1,fk (Ke _ _ _ ho_)),(0,fk (Fc _ _ hf))] hQ
theorem I3 (m_:Al)(x:(List Int))(r:Int)(h:DX m_ x=some r):CZ Tryz.prog 101 [.agg [hZ m_.d.Facts,iP m_.d.Stored,iP m_.d.Owner,iP m_.known],hI x,.vptr [.fno true 100 []] 0] (iP r):=by
 unfold DX at h
 refine vP ⟨[0,1,2,5],[(1,[9999,0,0,1,2,3,4,5,6,7,8,9])]⟩ Tryz.func101 follows fun Q hQ=>?_
 obtain⟨x1,hx1,h⟩:=Ad h
 obtain⟨x2,hx2,h⟩:=Ad h
 obtain⟨o_,ho_,h⟩:=Ad h
 obtain⟨f,hf,h⟩:=Ad h
 cases h
 exact rt 2 [(4,fi Bd hx1),(2,fi Bd hx2),(1,fk (Kd _ _ _ ho_)),(0,fk (Fc _ _ hf))] hQ
end Go.Proofs.YtkcfmlfkfagejaaGreatDoor
