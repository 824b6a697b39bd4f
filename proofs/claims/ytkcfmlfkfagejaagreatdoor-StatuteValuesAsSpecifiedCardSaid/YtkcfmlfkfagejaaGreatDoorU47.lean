/-
  The walks of chapter 33: the reference: the program computes the plain functions. (Printed by lift.py.)
-/
import Derived.Test.YtkcfmlfkfagejaaGreatDoorU7
import Derived.Test.YtkcfmlfkfagejaaGreatDoorU16
import Derived.Test.YtkcfmlfkfagejaaGreatDoorU22
import Derived.Test.YtkcfmlfkfagejaaGreatDoorU46
set_option linter.unusedVariables false
set_option linter.unusedSimpArgs false
namespace Go.Proofs.YtkcfmlfkfagejaaGreatDoor
open Go.RowKit Go.Q Go.Vl Go.Sp
set_option maxRecDepth 100000
set_option linter.unusedSimpArgs false
set_option maxHeartbeats 4000000
set_option linter.unusedVariables false
theorem Nk (c:Aj)(k:Int)(r:Aa)(h:Fj c k=some r):Cd Tryz.prog 29 [.agg [tP c.Name,iP c.Kind,iP c.Rank,iP c.Known,iP c.From.Op,iP c.From.N,tP c.From.S,hX c.From.Kids,iP c.From.At,iP c.To.Op,iP c.To.N,tP c.To.S,hX c.To.Kids,iP c.To.At,iP c.When.Op,iP c.When.N,tP c.When.S,hX c.When.Kids,iP c.When.At,iP c.Houses],iP k] (.agg [iP r.Op,iP r.N,tP r.S,hX r.Kids,iP r.At]):=by
 unfold Fj at h
 refine vP ⟨[0,1,2,4,6,10],[]⟩ Tryz.func29 follows fun Q hQ=>?_
 refine cD 2 [] h (fun hc1 h=>?_) fun hc1 h=>?_
 cases h
 exact rt 1 [] hQ
 refine cD 1 [] h (fun hc h=>?_) fun hc h=>?_
 cases h
 exact rt 1 [] hQ
 cases h
 exact rt 1 [] hQ
theorem P8 (n0:Nat)
 (ih_ref33_left:∀ m,m<=n0->∀ (e:Aa) (n_:Int) (r:Int),B7 m e n_=some r->Cd Tryz.prog 28 [.agg [iP e.Op,iP e.N,tP e.S,hX e.Kids,iP e.At],iP n_] (iP r))
 (n:Nat) (hn:n<=n0) (e:Aa) (n_:Int) (r:Int) (h:B7 (n+1) e n_=some r):Cd Tryz.prog 28 [.agg [iP e.Op,iP e.N,tP e.S,hX e.Kids,iP e.At],iP n_] (iP r):=by
 replace h:=(B7.eq_2 ..).symm.trans h
 refine vP ⟨[0,1,2,4,5,16],[]⟩ Tryz.func28 follows fun Q hQ=>?_
 refine mE 3 [] h (fun n_1=>⟨[(1,iP n_1),(4,iP 0)],[[iP e.Op,iP e.N,tP e.S,hX e.Kids,iP e.At]]⟩) ?_ fun y e1 hJ=>?_
 rintro n_1 h
 cases h
 exact rt 1 [] hQ
 refine lR 1 [] (A:=(Int×Int)) (fun n (n_2,k)=>Ci n e n_2 k) (fun (n_2,k)=>⟨[(1,iP n_2),(2,.ptr 0 0),(4,iP 0),(5,iP k)],[[iP e.Op,iP e.N,tP e.S,hX e.Kids,iP e.At]]⟩) ((IntKind.i64.wrap (n_-1)),0) hn e1 (fun _=>rfl) ?_
 rintro n ⟨n_2,k⟩ hn e1 ih
 replace e1:=(Ci.eq_2 ..).symm.trans e1
 refine mE 0 [] e1 (fun v16=>⟨[(1,iP n_2),(2,.ptr 0 0),(4,iP 0),(5,iP k),(16,bP v16)],[[iP e.Op,iP e.N,tP e.S,hX e.Kids,iP e.At]]⟩) ?_ fun y1 e2 hJ1=>?_
 rintro v16 e1
 refine cD 0 [] e1 (fun hc e1=>?_) fun hc e1=>?_
 obtain⟨x,hx,e1⟩:=Ac e1
 obtain⟨n_3,hn_3,e1⟩:=Ac e1
 exact mJ 3 [(3,fi A2 hx),(2,fk (ih_ref33_left _ hn _ _ _ hn_3))] (ih (_,_) e1)
 exact mJ 1 [] (hJ _ (oj e1))
 rcases Ak e2 with⟨hc1,e2⟩|⟨hc1,e2⟩
 exact mJ 1 [(3,fl A2 e.Kids),(1,fo hc1)] (hJ1 _ (oj e2))
 exact mJ 1 [(3,fl A2 e.Kids),(1,fo hc1)] (hJ1 _ (oj e2))
theorem Kq:∀ n:Nat,(∀ m,m<=n->∀ (e:Aa) (n_:Int) (r:Int),B7 m e n_=some r->Cd Tryz.prog 28 [.agg [iP e.Op,iP e.N,tP e.S,hX e.Kids,iP e.At],iP n_] (iP r))
 |0=>(fun m hm e n_ r h=>by
  obtain rfl:m=0:=by omega
  exact absurd h (by simp [B7]))
 |n+1=>by
  have ih:=Kq n
  exact fun m hm e n_ r h=>by
   cases m with
   |zero=>exact absurd h (by simp [B7])
   |succ m=>exact P8 n (ih) m (by omega) e n_ _ h
theorem RH (n:Nat)(e:Aa)(n_:Int)(r:Int)(h:B7 n e n_=some r):Cd Tryz.prog 28 [.agg [iP e.Op,iP e.N,tP e.S,hX e.Kids,iP e.At],iP n_] (iP r) :=
 (Kq n) n (Nat.le_refl _) e n_ r h
theorem T5 (n:Nat)(l:(List Aj))(n_:Int)(r:Bool)(h:IW n l n_=some r):Cd Tryz.prog 9 [hC l,iP n_] (bP r):=by
 unfold IW at h
 refine vP ⟨[0,1,4,5,6,9,17,25],[]⟩ Tryz.func9 follows fun Q hQ=>?_
 refine cD 2 [(2,fl Ai l)] h (fun hc4 h=>?_) fun hc4 h=>?_
 cases h
 exact rt 1 [] hQ
 refine mE 1 [] h (fun n_1=>⟨[(1,iP n_1),(4,bP false)],[]⟩) ?_ fun y e hJ=>?_
 rintro n_1 h
 cases h
 exact rt 1 [] hQ
 refine lF 1 [] (A:=(Int×Int)) (fun n (n_2,i)=>Dd n l n_2 i) (fun (n_2,i)=>⟨[(0,hC l),(1,iP n_2),(4,bP false),(5,iP i)],[]⟩) (n_,0) e (fun _=>rfl) ?_
 rintro n ⟨n_2,i⟩ e ih
 replace e:=(Dd.eq_2 ..).symm.trans e
 refine mE 0 [] e (fun v17=>⟨[(0,hC l),(1,iP n_2),(4,bP false),(5,iP i),(17,bP v17)],[]⟩) ?_ fun y1 e1 hJ1=>?_
 rintro v17 e
 refine cD 0 [] e (fun hc2 e=>?_) fun hc2 e=>?_
 refine mE 2 [] e (fun n_3=>⟨[(0,hC l),(1,iP n_3),(4,bP false),(5,iP i)],[]⟩) ?_ fun y2 e2 hJ2=>?_
 rintro n_3 e
 exact mJ 1 [] (ih (_,_) e)
 refine lF 1 [] (A:=(Int×Int)) (fun n (n_4,k)=>B9 n l i n_4 k) (fun (n_4,k)=>⟨[(0,hC l),(1,iP n_4),(4,bP false),(5,iP i),(6,iP k)],[]⟩) (n_2,0) e2 (fun _=>rfl) ?_
 rintro n ⟨n_4,k⟩ e2 ih1
 replace e2:=(B9.eq_2 ..).symm.trans e2
 refine mE 0 [] e2 (fun v25=>⟨[(0,hC l),(1,iP n_4),(4,bP false),(5,iP i),(6,iP k),(25,bP v25)],[]⟩) ?_ fun y3 e3 hJ3=>?_
 rintro v25 e2
 refine cD 0 [] e2 (fun hc e2=>?_) fun hc e2=>?_
 obtain⟨x,hx,e2⟩:=Ac e2
 obtain⟨p,hp,e2⟩:=Ac e2
 obtain⟨n_5,hn_5,e2⟩:=Ac e2
 exact mJ 3 [(2,fi Ai hx),(2,fk (Nk _ _ _ hp)),(1,fk (RH _ _ _ _ hn_5))] (ih1 (_,_) e2)
 exact mJ 1 [] (hJ2 _ (oj e2))
 rcases Ak e3 with⟨hc1,e3⟩|⟨hc1,e3⟩
 exact mJ 1 [(2,fo hc1)] (hJ3 _ (oj e3))
 exact mJ 1 [(2,fo hc1)] (hJ3 _ (oj e3))
 exact mJ 1 [] (hJ _ (oj e))
 rcases Ak e1 with⟨hc3,e1⟩|⟨hc3,e1⟩
 exact mJ 1 [(2,fl Ai l),(1,fo hc3)] (hJ1 _ (oj e1))
 exact mJ 1 [(2,fl Ai l),(1,fo hc3)] (hJ1 _ (oj e1))
theorem NL (op:Int)(r:Int)(h:C8 op=some r):Cd Tryz.prog 47 [iP op] (iP r):=by
 unfold C8 at h
 refine vP ⟨[0,2,8,10,16,18],[]⟩ Tryz.func47 follows fun Q hQ=>?_
 refine mE 1 [] h (fun v8=>⟨[(0,iP op),(2,iP 0),(8,bP v8)],[]⟩) ?_ fun y e hJ=>?_
 rintro v8 h
 refine cD 0 [] h (fun hc4 h=>?_) fun hc4 h=>?_
 cases h
 exact rt 1 [] hQ
 refine cD 1 [] h (fun hc3 h=>?_) fun hc3 h=>?_
 cases h
 exact rt 1 [] hQ
 refine mE 0 [] h (fun v16=>⟨[(0,iP op),(2,iP 0),(16,bP v16)],[]⟩) ?_ fun y1 e1 hJ1=>?_
 rintro v16 h
 refine cD 0 [] h (fun hc1 h=>?_) fun hc1 h=>?_
 cases h
 exact rt 1 [] hQ
 refine cD 1 [] h (fun hc h=>?_) fun hc h=>?_
 cases h
 exact rt 1 [] hQ
 cases h
 exact rt 1 [] hQ
 rcases Ak e1 with⟨hc2,e1⟩|⟨hc2,e1⟩
 exact mJ 1 [(2,fo hc2)] (hJ1 _ (oj e1))
 exact mJ 1 [(2,fo hc2)] (hJ1 _ (oj e1))
 rcases Ak e with⟨hc5,e⟩|⟨hc5,e⟩
 exact mJ 1 [(2,fo hc5)] (hJ _ (oj e))
 exact mJ 1 [(2,fo hc5)] (hJ _ (oj e))
theorem LZ (name:ByteArray)(r:Int)(h:DC name=some r):Cd Tryz.prog 60 [tP name] (iP r):=by
 unfold DC at h
 refine vP ⟨[0,2,3,4,6,8,10,12],[]⟩ Tryz.func60 follows fun Q hQ=>?_
 refine cD 4 [] h (fun hc4 h=>?_) fun hc4 h=>?_
 cases h
 exact rt 1 [] hQ
 refine cD 1 [] h (fun hc3 h=>?_) fun hc3 h=>?_
 cases h
 exact rt 1 [] hQ
 refine cD 1 [] h (fun hc2 h=>?_) fun hc2 h=>?_
 cases h
 exact rt 1 [] hQ
 refine cD 1 [] h (fun hc1 h=>?_) fun hc1 h=>?_
 cases h
 exact rt 1 [] hQ
 refine cD 1 [] h (fun hc h=>?_) fun hc h=>?_
 cases h
 exact rt 1 [] hQ
 cases h
 exact rt 1 [] hQ
theorem RI (name:ByteArray)(t:(List Int))(r:(Int×Int))(h:CQ name t=some r):Cd Tryz.prog 48 [tP name,hI t] (.tup [iP r.1,iP r.2]):=by
 unfold CQ at h
 refine vP ⟨[0,1,4,5,6,7,8,32,46,63,71,87],[(12,[9999,0,0,1,2,3,4,5,6,7,8,9,10,11,12,13,14,15])]⟩ Tryz.func48 follows fun Q hQ=>?_
 obtain⟨f,hf,h⟩:=Ac h
 refine mE 2 [(3,fk (LZ _ _ hf))] h (fun one=>⟨[(0,tP name),(1,hI t),(4,iP 0),(5,iP 0),(6,bP (decide (0<f))),(7,bP one)],[]⟩) ?_ fun y e hJ=>?_
 rintro one h
 refine mE 0 [] h (fun two=>⟨[(0,tP name),(1,hI t),(4,iP 0),(5,iP 0),(6,bP (decide (0<f))),(7,bP one),(8,bP two)],[]⟩) ?_ fun y1 e1 hJ1=>?_
 rintro two h
 refine mE 0 [] h (fun v32=>⟨[(0,tP name),(1,hI t),(4,iP 0),(5,iP 0),(6,bP (decide (0<f))),(7,bP one),(8,bP two),(32,bP v32)],[]⟩) ?_ fun y2 e2 hJ2=>?_
 rintro v32 h
 refine cD 0 [] h (fun hc15 h=>?_) fun hc15 h=>?_
 cases h
 exact rt 1 [] hQ
 refine mE 0 [] h (fun v46=>⟨[(0,tP name),(1,hI t),(4,iP 0),(5,iP 0),(6,bP (decide (0<f))),(8,bP two),(46,bP v46)],[]⟩) ?_ fun y3 e3 hJ3=>?_
 rintro v46 h
 refine cD 0 [] h (fun hc10 h=>?_) fun hc10 h=>?_
 cases h
 exact rt 1 [] hQ
 refine mE 0 [] h (fun v63=>⟨[(0,tP name),(1,hI t),(4,iP 0),(5,iP 0),(8,bP two),(63,bP v63)],[]⟩) ?_ fun y4 e4 hJ4=>?_
 rintro v63 h
 refine cD 0 [] h (fun hc5 h=>?_) fun hc5 h=>?_
 cases h
 exact rt 1 [] hQ
 refine mE 0 [] h (fun v71=>⟨[(1,hI t),(4,iP 0),(5,iP 0),(8,bP two),(71,bP v71)],[]⟩) ?_ fun y5 e5 hJ5=>?_
 rintro v71 h
 refine cD 0 [] h (fun hc3 h=>?_) fun hc3 h=>?_
 cases h
 exact rt 1 [] hQ
 refine mE 0 [] h (fun v87=>⟨[(1,hI t),(4,iP 0),(5,iP 0),(87,bP v87)],[]⟩) ?_ fun y6 e6 hJ6=>?_
 rintro v87 h
 refine cD 0 [] h (fun hc h=>?_) fun hc h=>?_
 obtain⟨x,hx,h⟩:=Ac h
 cases h
 exact rt 1 [(1,fi Aw hx)] hQ
 cases h
 exact rt 1 [] hQ
 rcases Ak e6 with⟨hc1,e6⟩|⟨hc1,e6⟩
 obtain⟨x1,hx1,e6⟩:=Ac e6
 obtain⟨x2,hx2,e6⟩:=Ac e6
 rcases Ak e6 with⟨hc2,e6⟩|⟨hc2,e6⟩
 exact mJ 1 [(1,fo hc1),(1,fi Aw hx1),(2,fi Aw hx2),(3,fo hc2),(1,fi Aw hx1)] (hJ6 _ (oj e6))
 exact mJ 1 [(1,fo hc1),(1,fi Aw hx1),(2,fi Aw hx2),(3,fo hc2)] (hJ6 _ (oj e6))
 exact mJ 1 [(1,fo hc1)] (hJ6 _ (oj e6))
 rcases Ak e5 with⟨hc4,e5⟩|⟨hc4,e5⟩
 obtain⟨x3,hx3,e5⟩:=Ac e5
 exact mJ 1 [(2,fo hc4),(1,fi Aw hx3)] (hJ5 _ (oj e5))
 exact mJ 1 [(2,fo hc4)] (hJ5 _ (oj e5))
 rcases Ak e4 with⟨hc6,e4⟩|⟨hc6,e4⟩
 obtain⟨x4,hx4,e4⟩:=Ac e4
 rcases Ak e4 with⟨hc7,e4⟩|⟨hc7,e4⟩
 exact mJ 1 [(1,fo hc6),(1,fi Aw hx4),(3,fo hc7)] (hJ4 _ (oj e4))
 rcases Ak e4 with⟨hc8,e4⟩|⟨hc8,e4⟩
 exact mJ 1 [(1,fo hc6),(1,fi Aw hx4),(3,fo hc7),(2,fo hc8),(1,fi Aw hx4)] (hJ4 _ (oj e4))
 exact mJ 1 [(1,fo hc6),(1,fi Aw hx4),(3,fo hc7),(2,fo hc8)] (hJ4 _ (oj e4))
 rcases Ak e4 with⟨hc9,e4⟩|⟨hc9,e4⟩
 obtain⟨x5,hx5,e4⟩:=Ac e4
 exact mJ 1 [(1,fo hc6),(8,fo hc9),(1,fi Aw hx5)] (hJ4 _ (oj e4))
 exact mJ 1 [(1,fo hc6),(8,fo hc9)] (hJ4 _ (oj e4))
 rcases Ak e3 with⟨hc11,e3⟩|⟨hc11,e3⟩
 rcases Ak e3 with⟨hc12,e3⟩|⟨hc12,e3⟩
 exact mJ 1 [(1,fo hc11),(1,fl Aw t),(2,fo hc12)] (hJ3 _ (oj e3))
 rcases Ak e3 with⟨hc13,e3⟩|⟨hc13,e3⟩
 exact mJ 1 [(1,fo hc11),(1,fl Aw t),(2,fo hc12),(1,fo hc13),(1,fl Aw t)] (hJ3 _ (oj e3))
 exact mJ 1 [(1,fo hc11),(1,fl Aw t),(2,fo hc12),(1,fo hc13)] (hJ3 _ (oj e3))
 rcases Ak e3 with⟨hc14,e3⟩|⟨hc14,e3⟩
 exact mJ 1 [(1,fo hc11),(6,fo hc14),(1,fl Aw t)] (hJ3 _ (oj e3))
 exact mJ 1 [(1,fo hc11),(6,fo hc14)] (hJ3 _ (oj e3))
 rcases Ak e2 with⟨hc16,e2⟩|⟨hc16,e2⟩
 exact mJ 1 [(2,fo hc16)] (hJ2 _ (oj e2))
 exact mJ 1 [(2,fo hc16)] (hJ2 _ (oj e2))
 rcases Ak e1 with⟨hc17,e1⟩|⟨hc17,e1⟩
 exact mJ 1 [(2,fo hc17)] (hJ1 _ (oj e1))
 exact mJ 1 [(2,fo hc17)] (hJ1 _ (oj e1))
 rcases Ak e with⟨hc18,e⟩|⟨hc18,e⟩
 exact mJ 1 [(1,fo hc18)] (hJ _ (oj e))
 rcases Ak e with⟨hc19,e⟩|⟨hc19,e⟩
 exact mJ 1 [(1,fo hc18),(3,fo hc19)] (hJ _ (oj e))
 exact mJ 1 [(1,fo hc18),(3,fo hc19)] (hJ _ (oj e))
theorem P6 (op:Int)(t:(List Int))(r:Int)(h:Fu op t=some r):Cd Tryz.prog 49 [iP op,hI t] (iP r):=by
 unfold Fu at h
 refine vP ⟨[0,1,4,5,6,7,17,25,42,47,80,98,103,115,139,157],[(6,[9999,0,0,1,2,3,4,5,6,7,8,9,10,11,12,13,14,15,16])]⟩ Tryz.func49 follows fun Q hQ=>?_
 refine mE 2 [(2,fl Aw t)] h (fun v17=>⟨[(0,iP op),(1,hI t),(4,iP 0),(5,iP (t.length:Int)),(17,bP v17)],[]⟩) ?_ fun y e hJ=>?_
 rintro v17 h
 refine cD 0 [] h (fun hc37 h=>?_) fun hc37 h=>?_
 cases h
 exact rt 1 [] hQ
 refine mE 0 [] h (fun v25=>⟨[(0,iP op),(1,hI t),(4,iP 0),(5,iP (t.length:Int)),(25,bP v25)],[]⟩) ?_ fun y1 e1 hJ1=>?_
 rintro v25 h
 refine cD 0 [] h (fun hc35 h=>?_) fun hc35 h=>?_
 cases h
 exact rt 1 [] hQ
 refine mE 0 [] h (fun v42=>⟨[(0,iP op),(1,hI t),(4,iP 0),(5,iP (t.length:Int)),(42,bP v42)],[]⟩) ?_ fun y2 e2 hJ2=>?_
 rintro v42 h
 refine cD 0 [] h (fun hc32 h=>?_) fun hc32 h=>?_
 obtain⟨x,hx,h⟩:=Ac h
 cases h
 exact rt 1 [(1,fi Aw hx)] hQ
 refine cD 1 [] h (fun hc31 h=>?_) fun hc31 h=>?_
 cases h
 exact rt 1 [] hQ
 refine mE 0 [] h (fun numbers=>⟨[(0,iP op),(1,hI t),(4,iP 0),(6,bP numbers)],[]⟩) ?_ fun y3 e3 hJ3=>?_
 rintro numbers h
 refine mE 0 [] h (fun days=>⟨[(0,iP op),(1,hI t),(4,iP 0),(6,bP numbers),(7,bP days)],[]⟩) ?_ fun y4 e4 hJ4=>?_
 rintro days h
 refine mE 0 [] h (fun v80=>⟨[(0,iP op),(1,hI t),(4,iP 0),(6,bP numbers),(7,bP days),(80,bP v80)],[]⟩) ?_ fun y5 e5 hJ5=>?_
 rintro v80 h
 refine cD 0 [] h (fun hc25 h=>?_) fun hc25 h=>?_
 cases h
 exact rt 1 [] hQ
 refine mE 0 [] h (fun v98=>⟨[(0,iP op),(1,hI t),(4,iP 0),(6,bP numbers),(7,bP days),(98,bP v98)],[]⟩) ?_ fun y6 e6 hJ6=>?_
 rintro v98 h
 refine cD 0 [] h (fun hc20 h=>?_) fun hc20 h=>?_
 cases h
 exact rt 1 [] hQ
 refine mE 0 [] h (fun v103=>⟨[(0,iP op),(1,hI t),(4,iP 0),(6,bP numbers),(7,bP days),(103,bP v103)],[]⟩) ?_ fun y7 e7 hJ7=>?_
 rintro v103 h
 refine cD 0 [] h (fun hc18 h=>?_) fun hc18 h=>?_
 cases h
 exact rt 1 [] hQ
 refine mE 0 [] h (fun v115=>⟨[(0,iP op),(1,hI t),(4,iP 0),(6,bP numbers),(7,bP days),(115,bP v115)],[]⟩) ?_ fun y8 e8 hJ8=>?_
 rintro v115 h
 refine cD 0 [] h (fun hc14 h=>?_) fun hc14 h=>?_
 cases h
 exact rt 1 [] hQ
 refine mE 0 [] h (fun v139=>⟨[(0,iP op),(1,hI t),(4,iP 0),(139,bP v139)],[]⟩) ?_ fun y9 e9 hJ9=>?_
 rintro v139 h
 refine cD 0 [] h (fun hc5 h=>?_) fun hc5 h=>?_
 cases h
 exact rt 1 [] hQ
 refine mE 0 [] h (fun v157=>⟨[(4,iP 0),(157,bP v157)],[]⟩) ?_ fun y10 e10 hJ10=>?_
 rintro v157 h
 refine cD 0 [] h (fun hc h=>?_) fun hc h=>?_
 cases h
 exact rt 1 [] hQ
 cases h
 exact rt 1 [] hQ
 rcases Ak e10 with⟨hc1,e10⟩|⟨hc1,e10⟩
 obtain⟨x1,hx1,e10⟩:=Ac e10
 rcases Ak e10 with⟨hc2,e10⟩|⟨hc2,e10⟩
 obtain⟨x2,hx2,e10⟩:=Ac e10
 exact mJ 1 [(2,fo hc1),(5,fi Aw hx1),(3,fo hc2),(1,fi Aw hx2)] (hJ10 _ (oj e10))
 exact mJ 1 [(2,fo hc1),(5,fi Aw hx1),(3,fo hc2)] (hJ10 _ (oj e10))
 rcases Ak e10 with⟨hc3,e10⟩|⟨hc3,e10⟩
 obtain⟨x3,hx3,e10⟩:=Ac e10
 rcases Ak e10 with⟨hc4,e10⟩|⟨hc4,e10⟩
 obtain⟨x4,hx4,e10⟩:=Ac e10
 exact mJ 1 [(2,fo hc1),(3,fo hc3),(1,fi Aw hx3),(3,fo hc4),(1,fi Aw hx4)] (hJ10 _ (oj e10))
 exact mJ 1 [(2,fo hc1),(3,fo hc3),(1,fi Aw hx3),(3,fo hc4)] (hJ10 _ (oj e10))
 exact mJ 1 [(2,fo hc1),(3,fo hc3)] (hJ10 _ (oj e10))
 rcases Ak e9 with⟨hc6,e9⟩|⟨hc6,e9⟩
 rcases Ak e9 with⟨hc7,e9⟩|⟨hc7,e9⟩
 exact mJ 1 [(2,fo hc6),(5,fo hc7)] (hJ9 _ (oj e9))
 rcases Ak e9 with⟨hc8,e9⟩|⟨hc8,e9⟩
 exact mJ 1 [(2,fo hc6),(5,fo hc7),(2,fo hc8)] (hJ9 _ (oj e9))
 obtain⟨x5,hx5,e9⟩:=Ac e9
 rcases Ak e9 with⟨hc9,e9⟩|⟨hc9,e9⟩
 obtain⟨x6,hx6,e9⟩:=Ac e9
 exact mJ 1 [(2,fo hc6),(5,fo hc7),(2,fo hc8),(1,fi Aw hx5),(2,fo hc9),(1,fi Aw hx6)] (hJ9 _ (oj e9))
 exact mJ 1 [(2,fo hc6),(5,fo hc7),(2,fo hc8),(1,fi Aw hx5),(2,fo hc9)] (hJ9 _ (oj e9))
 rcases Ak e9 with⟨hc10,e9⟩|⟨hc10,e9⟩
 rcases Ak e9 with⟨hc11,e9⟩|⟨hc11,e9⟩
 exact mJ 1 [(2,fo hc6),(3,fo hc10),(1,fo hc11)] (hJ9 _ (oj e9))
 rcases Ak e9 with⟨hc12,e9⟩|⟨hc12,e9⟩
 exact mJ 1 [(2,fo hc6),(3,fo hc10),(1,fo hc11),(2,fo hc12)] (hJ9 _ (oj e9))
 obtain⟨x7,hx7,e9⟩:=Ac e9
 rcases Ak e9 with⟨hc13,e9⟩|⟨hc13,e9⟩
 obtain⟨x8,hx8,e9⟩:=Ac e9
 exact mJ 1 [(2,fo hc6),(3,fo hc10),(1,fo hc11),(2,fo hc12),(1,fi Aw hx7),(2,fo hc13),(1,fi Aw hx8)] (hJ9 _ (oj e9))
 exact mJ 1 [(2,fo hc6),(3,fo hc10),(1,fo hc11),(2,fo hc12),(1,fi Aw hx7),(2,fo hc13)] (hJ9 _ (oj e9))
 exact mJ 1 [(2,fo hc6),(3,fo hc10)] (hJ9 _ (oj e9))
 rcases Ak e8 with⟨hc15,e8⟩|⟨hc15,e8⟩
 rcases Ak e8 with⟨hc16,e8⟩|⟨hc16,e8⟩
 rcases Ak e8 with⟨hc17,e8⟩|⟨hc17,e8⟩
 exact mJ 1 [(2,fo hc15),(3,fo hc16),(1,fo hc17)] (hJ8 _ (oj e8))
 exact mJ 1 [(2,fo hc15),(3,fo hc16),(1,fo hc17)] (hJ8 _ (oj e8))
 exact mJ 1 [(2,fo hc15),(3,fo hc16)] (hJ8 _ (oj e8))
 exact mJ 1 [(2,fo hc15)] (hJ8 _ (oj e8))
 rcases Ak e7 with⟨hc19,e7⟩|⟨hc19,e7⟩
 exact mJ 1 [(2,fo hc19)] (hJ7 _ (oj e7))
 exact mJ 1 [(2,fo hc19)] (hJ7 _ (oj e7))
 rcases Ak e6 with⟨hc21,e6⟩|⟨hc21,e6⟩
 obtain⟨x9,hx9,e6⟩:=Ac e6
 rcases Ak e6 with⟨hc22,e6⟩|⟨hc22,e6⟩
 obtain⟨x10,hx10,e6⟩:=Ac e6
 exact mJ 1 [(2,fo hc21),(5,fi Aw hx9),(3,fo hc22),(1,fi Aw hx10)] (hJ6 _ (oj e6))
 exact mJ 1 [(2,fo hc21),(5,fi Aw hx9),(3,fo hc22)] (hJ6 _ (oj e6))
 rcases Ak e6 with⟨hc23,e6⟩|⟨hc23,e6⟩
 obtain⟨x11,hx11,e6⟩:=Ac e6
 rcases Ak e6 with⟨hc24,e6⟩|⟨hc24,e6⟩
 obtain⟨x12,hx12,e6⟩:=Ac e6
 exact mJ 1 [(2,fo hc21),(3,fo hc23),(1,fi Aw hx11),(3,fo hc24),(1,fi Aw hx12)] (hJ6 _ (oj e6))
 exact mJ 1 [(2,fo hc21),(3,fo hc23),(1,fi Aw hx11),(3,fo hc24)] (hJ6 _ (oj e6))
 exact mJ 1 [(2,fo hc21),(3,fo hc23)] (hJ6 _ (oj e6))
 rcases Ak e5 with⟨hc26,e5⟩|⟨hc26,e5⟩
 exact mJ 1 [(2,fo hc26)] (hJ5 _ (oj e5))
 rcases Ak e5 with⟨hc27,e5⟩|⟨hc27,e5⟩
 exact mJ 1 [(2,fo hc26),(3,fo hc27)] (hJ5 _ (oj e5))
 rcases Ak e5 with⟨hc28,e5⟩|⟨hc28,e5⟩
 exact mJ 1 [(2,fo hc26),(3,fo hc27),(3,fo hc28)] (hJ5 _ (oj e5))
 exact mJ 1 [(2,fo hc26),(3,fo hc27),(3,fo hc28)] (hJ5 _ (oj e5))
 obtain⟨x13,hx13,e4⟩:=Ac e4
 rcases Ak e4 with⟨hc29,e4⟩|⟨hc29,e4⟩
 obtain⟨x14,hx14,e4⟩:=Ac e4
 exact mJ 1 [(1,fi Aw hx13),(2,fo hc29),(1,fi Aw hx14)] (hJ4 _ (oj e4))
 exact mJ 1 [(1,fi Aw hx13),(2,fo hc29)] (hJ4 _ (oj e4))
 obtain⟨x15,hx15,e3⟩:=Ac e3
 rcases Ak e3 with⟨hc30,e3⟩|⟨hc30,e3⟩
 obtain⟨x16,hx16,e3⟩:=Ac e3
 exact mJ 1 [(1,fi Aw hx15),(2,fo hc30),(1,fi Aw hx16)] (hJ3 _ (oj e3))
 exact mJ 1 [(1,fi Aw hx15),(2,fo hc30)] (hJ3 _ (oj e3))
 rcases Ak e2 with⟨hc33,e2⟩|⟨hc33,e2⟩
 obtain⟨x17,hx17,e2⟩:=Ac e2
 rcases Ak e2 with⟨hc34,e2⟩|⟨hc34,e2⟩
 obtain⟨x18,hx18,e2⟩:=Ac e2
 obtain⟨x19,hx19,e2⟩:=Ac e2
 exact mJ 1 [(2,fo hc33),(1,fi Aw hx17),(3,fo hc34),(1,fi Aw hx18),(2,fi Aw hx19)] (hJ2 _ (oj e2))
 exact mJ 1 [(2,fo hc33),(1,fi Aw hx17),(3,fo hc34)] (hJ2 _ (oj e2))
 exact mJ 1 [(2,fo hc33)] (hJ2 _ (oj e2))
 rcases Ak e1 with⟨hc36,e1⟩|⟨hc36,e1⟩
 obtain⟨x20,hx20,e1⟩:=Ac e1
 exact mJ 1 [(2,fo hc36),(1,fi Aw hx20)] (hJ1 _ (oj e1))
 exact mJ 1 [(2,fo hc36)] (hJ1 _ (oj e1))
 rcases Ak e with⟨hc38,e⟩|⟨hc38,e⟩
 obtain⟨x21,hx21,e⟩:=Ac e
 exact mJ 1 [(2,fo hc38),(1,fi Aw hx21)] (hJ _ (oj e))
 exact mJ 1 [(2,fo hc38)] (hJ _ (oj e))
theorem PA (n0:Nat)
 (ih_ref33_Type:∀ m,m<=n0->∀ (e:Aa) (r:BI),AT m e=some r->Cd Tryz.prog 23 [.agg [iP e.Op,iP e.N,tP e.S,hX e.Kids,iP e.At]] (.agg [iP r.T,iP r.P.At,iP r.P.E]))
 (n:Nat) (hn:n<=n0) (e:Aa) (r:BI) (h:AT (n+1) e=some r):Cd Tryz.prog 23 [.agg [iP e.Op,iP e.N,tP e.S,hX e.Kids,iP e.At]] (.agg [iP r.T,iP r.P.At,iP r.P.E]):=by
 replace h:=(AT.eq_2 ..).symm.trans h
 refine vP ⟨[0,1,2,3,4,5,6,7,8,9,10,32,41,53,61,66,75,76,78,81,82,84,87,89,101],[]⟩ Tryz.func23 follows fun Q hQ=>?_
 obtain⟨n_,hn_,h⟩:=Ac h
 refine mE 2 [(4,fk (NL _ _ hn_))] h (fun v32=>⟨[(1,.ptr 0 0),(2,.ptr 1 0),(32,bP v32)],[[iP e.Op,iP e.N,tP e.S,hX e.Kids,iP e.At],[iP 0,iP 0,iP 0]]⟩) ?_ fun y e1 hJ=>?_
 rintro v32 h
 refine cD 0 [] h (fun hc14 h=>?_) fun hc14 h=>?_
 cases h
 exact rt 1 [] hQ
 refine mI 2 [] h (fun t=>⟨[(1,.ptr 0 0),(2,.ptr 1 0),(4,oI t)],[[iP e.Op,iP e.N,tP e.S,hX e.Kids,iP e.At],[iP 0,iP 0,iP 0]]⟩) ?_ fun y1 e2 h hJ1=>?_
 rintro t h
 refine mE 3 [] h (fun (out,err)=>⟨[(1,.ptr 0 0),(2,.ptr 1 0),(7,iP out),(8,iP err)],[[iP e.Op,iP e.N,tP e.S,hX e.Kids,iP e.At],[iP 0,iP 0,iP 0]]⟩) ?_ fun y2 e3 hJ2=>?_
 rintro⟨out,err⟩ h
 refine cD 1 [] h (fun hc h=>?_) fun hc h=>?_
 cases h
 exact rt 1 [] hQ
 cases h
 exact rt 1 [] hQ
 refine cD 2 [] e3 (fun hc11 e3=>?_) fun hc11 e3=>?_
 refine mE 1 [] e3 (fun v75=>⟨[(1,.ptr 0 0),(2,.ptr 1 0),(7,iP 1),(8,iP 7),(75,bP v75)],[[iP e.Op,iP e.N,tP e.S,hX e.Kids,iP e.At],[iP 0,iP 0,iP 0]]⟩) ?_ fun y3 e4 hJ3=>?_
 rintro v75 e3
 refine cD 0 [] e3 (fun hc1 e3=>?_) fun hc1 e3=>?_
 exact mJ 2 [] (hJ2 _ (oj e3))
 exact mJ 0 [] (hJ2 _ (oj e3))
 rcases Ak e4 with⟨hc2,e4⟩|⟨hc2,e4⟩
 exact mJ 1 [(3,fo hc2)] (hJ3 _ (oj e4))
 exact mJ 1 [(3,fo hc2)] (hJ3 _ (oj e4))
 refine cD 1 [] e3 (fun hc10 e3=>?_) fun hc10 e3=>?_
 exact mJ 1 [] (hJ2 _ (oj e3))
 refine cD 1 [] e3 (fun hc9 e3=>?_) fun hc9 e3=>?_
 refine cD 3 [] e3 (fun hc6 e3=>?_) fun hc6 e3=>?_
 exact mJ 1 [] (hJ2 _ (oj e3))
 refine mE 1 [] e3 (fun v84=>⟨[(1,.ptr 0 0),(2,.ptr 1 0),(7,iP 0),(8,iP 7),(81,tP e.S),(84,bP v84)],[[iP e.Op,iP e.N,tP e.S,hX e.Kids,iP e.At],[iP 0,iP 0,iP 0]]⟩) ?_ fun y4 e5 hJ4=>?_
 rintro v84 e3
 refine cD 0 [] e3 (fun hc4 e3=>?_) fun hc4 e3=>?_
 exact mJ 1 [] (hJ2 _ (oj e3))
 refine cD 1 [] e3 (fun hc3 e3=>?_) fun hc3 e3=>?_
 exact mJ 1 [] (hJ2 _ (oj e3))
 exact mJ 1 [] (hJ2 _ (oj e3))
 refine cD 0 [] e5 (fun hc5 e5=>?_) fun hc5 e5=>?_
 exact mJ 0 [] (hJ4 _ (oj e5))
 exact mJ 1 [] (hJ4 _ (oj e5))
 refine cD 1 [] e3 (fun hc8 e3=>?_) fun hc8 e3=>?_
 obtain⟨c,hc7,e3⟩:=Ac e3
 exact mJ 3 [(3,fk (RI _ _ _ hc7))] (hJ2 _ (oj e3))
 obtain⟨out1,hout1,e3⟩:=Ac e3
 exact mJ 1 [(3,fk (P6 _ _ _ hout1))] (hJ2 _ (oj e3))
 refine lR 1 [] (A:=((List Int)×Int)) (fun n (t1,k)=>Cj n e t1 k) (fun (t1,k)=>⟨[(1,.ptr 0 0),(2,.ptr 1 0),(4,oI t1),(5,iP k)],[[iP e.Op,iP e.N,tP e.S,hX e.Kids,iP e.At],[iP 0,iP 0,iP 0]]⟩) ([],0) hn e2 (fun _=>rfl) ?_
 rintro n ⟨t1,k⟩ hn e2 ih
 replace e2:=(Cj.eq_2 ..).symm.trans e2
 refine cD 1 [(3,fl A2 e.Kids)] e2 (fun hc13 e2=>?_) fun hc13 e2=>?_
 obtain⟨x,hx,e2⟩:=Ac e2
 obtain⟨x1,hx1,e2⟩:=Ac e2
 refine cD 3 [(3,fi A2 hx),(1,fk (ih_ref33_Type _ hn _ _ hx1))] e2 (fun hc12 e2=>?_) fun hc12 e2=>?_
 cases e2
 cases h
 exact rt 1 [] hQ
 obtain⟨l,hl,e2⟩:=Ac e2
 obtain⟨l1,hl1,e2⟩:=Ac e2
 exact mJ 2 [(3,fB Aw hl),(0,fa Aw hl1)] (ih (_,_) e2)
 exact mJ 1 [] (hJ1 _ (oj e2))
 rcases Ak e1 with⟨hc15,e1⟩|⟨hc15,e1⟩
 exact mJ 1 [(3,fo hc15)] (hJ _ (oj e1))
 rcases Ak e1 with⟨hc16,e1⟩|⟨hc16,e1⟩
 exact mJ 1 [(3,fo hc15),(4,fo hc16)] (hJ _ (oj e1))
 rcases Ak e1 with⟨hc17,e1⟩|⟨hc17,e1⟩
 exact mJ 1 [(3,fo hc15),(4,fo hc16),(2,fo hc17),(2,fl A2 e.Kids)] (hJ _ (oj e1))
 exact mJ 1 [(3,fo hc15),(4,fo hc16),(2,fo hc17)] (hJ _ (oj e1))
theorem Kr:∀ n:Nat,(∀ m,m<=n->∀ (e:Aa) (r:BI),AT m e=some r->Cd Tryz.prog 23 [.agg [iP e.Op,iP e.N,tP e.S,hX e.Kids,iP e.At]] (.agg [iP r.T,iP r.P.At,iP r.P.E]))
 |0=>(fun m hm e r h=>by
  obtain rfl:m=0:=by omega
  exact absurd h (by simp [AT]))
 |n+1=>by
  have ih:=Kr n
  exact fun m hm e r h=>by
   cases m with
   |zero=>exact absurd h (by simp [AT])
   |succ m=>exact PA n (ih) m (by omega) e _ h
theorem I6 (n:Nat)(e:Aa)(r:BI)(h:AT n e=some r):Cd Tryz.prog 23 [.agg [iP e.Op,iP e.N,tP e.S,hX e.Kids,iP e.At]] (.agg [iP r.T,iP r.P.At,iP r.P.E]) :=
 (Kr n) n (Nat.le_refl _) e r h
theorem En (n:Nat)(d:Au)(known:Int)(r:Int)(h:Ej n d known=some r):Cd Tryz.prog 16 [.agg [hZ d.Facts,iP d.Stored,iP d.Owner],iP known] (iP r):=by
 unfold Ej at h
 refine vP ⟨[0,1,2,4,5,6,10,15,60,86],[]⟩ Tryz.func16 follows fun Q hQ=>?_
 refine cD 2 [(4,fl BT d.Facts)] h (fun hc15 h=>?_) fun hc15 h=>?_
 cases h
 exact rt 1 [] hQ
 refine mI 1 [] h (fun _=>⟨[(1,iP known),(2,.ptr 0 0),(4,iP 0)],[[hZ d.Facts,iP d.Stored,iP d.Owner]]⟩) ?_ fun y e h hJ=>?_
 rintro _ h
 refine mE 0 [] h (fun v86=>⟨[(4,iP 0),(86,bP v86)],[[hZ d.Facts,iP d.Stored,iP d.Owner]]⟩) ?_ fun y1 e1 hJ1=>?_
 rintro v86 h
 refine cD 0 [] h (fun hc h=>?_) fun hc h=>?_
 cases h
 exact rt 1 [] hQ
 cases h
 exact rt 1 [] hQ
 rcases Ak e1 with⟨hc1,e1⟩|⟨hc1,e1⟩
 exact mJ 1 [(3,fo hc1)] (hJ1 _ (oj e1))
 rcases Ak e1 with⟨hc2,e1⟩|⟨hc2,e1⟩
 exact mJ 1 [(3,fo hc1),(4,fo hc2)] (hJ1 _ (oj e1))
 rcases Ak e1 with⟨hc3,e1⟩|⟨hc3,e1⟩
 exact mJ 1 [(3,fo hc1),(4,fo hc2),(3,fo hc3)] (hJ1 _ (oj e1))
 rcases Ak e1 with⟨hc4,e1⟩|⟨hc4,e1⟩
 exact mJ 1 [(3,fo hc1),(4,fo hc2),(3,fo hc3),(3,fo hc4)] (hJ1 _ (oj e1))
 rcases Ak e1 with⟨hc5,e1⟩|⟨hc5,e1⟩
 exact mJ 1 [(3,fo hc1),(4,fo hc2),(3,fo hc3),(3,fo hc4),(4,fo hc5)] (hJ1 _ (oj e1))
 exact mJ 1 [(3,fo hc1),(4,fo hc2),(3,fo hc3),(3,fo hc4),(4,fo hc5)] (hJ1 _ (oj e1))
 refine lF 1 [] (A:=Int) (fun n k=>C9 n d k) (fun k=>⟨[(1,iP known),(2,.ptr 0 0),(4,iP 0),(5,iP k)],[[hZ d.Facts,iP d.Stored,iP d.Owner]]⟩) 0 e (fun _=>rfl) ?_
 rintro n k e ih
 replace e:=(C9.eq_2 ..).symm.trans e
 refine cD 1 [(3,fl BT d.Facts)] e (fun hc14 e=>?_) fun hc14 e=>?_
 obtain⟨x,hx,e⟩:=Ac e
 refine mE 2 [(3,fi BT hx)] e (fun v60=>⟨[(1,iP known),(2,.ptr 0 0),(4,iP 0),(5,iP k),(60,bP v60)],[[hZ d.Facts,iP d.Stored,iP d.Owner],[iP x.Kind,iP x.Who,iP x.Day,iP x.Known]]⟩) ?_ fun y2 e2 hJ2=>?_
 rintro v60 e
 refine cD 0 [] e (fun hc6 e=>?_) fun hc6 e=>?_
 cases e
 cases h
 exact rt 1 [] hQ
 exact mJ 1 [] (ih _ e)
 rcases Ak e2 with⟨hc7,e2⟩|⟨hc7,e2⟩
 exact mJ 1 [(3,fo hc7)] (hJ2 _ (oj e2))
 rcases Ak e2 with⟨hc8,e2⟩|⟨hc8,e2⟩
 exact mJ 1 [(3,fo hc7),(4,fo hc8)] (hJ2 _ (oj e2))
 rcases Ak e2 with⟨hc9,e2⟩|⟨hc9,e2⟩
 exact mJ 1 [(3,fo hc7),(4,fo hc8),(4,fo hc9)] (hJ2 _ (oj e2))
 rcases Ak e2 with⟨hc10,e2⟩|⟨hc10,e2⟩
 exact mJ 1 [(3,fo hc7),(4,fo hc8),(4,fo hc9),(4,fo hc10)] (hJ2 _ (oj e2))
 rcases Ak e2 with⟨hc11,e2⟩|⟨hc11,e2⟩
 exact mJ 1 [(3,fo hc7),(4,fo hc8),(4,fo hc9),(4,fo hc10),(4,fo hc11)] (hJ2 _ (oj e2))
 rcases Ak e2 with⟨hc12,e2⟩|⟨hc12,e2⟩
 exact mJ 1 [(3,fo hc7),(4,fo hc8),(4,fo hc9),(4,fo hc10),(4,fo hc11),(4,fo hc12)] (hJ2 _ (oj e2))
 rcases Ak e2 with⟨hc13,e2⟩|⟨hc13,e2⟩
 exact mJ 1 [(3,fo hc7),(4,fo hc8),(4,fo hc9),(4,fo hc10),(4,fo hc11),(4,fo hc12),(4,fo hc13)] (hJ2 _ (oj e2))
 exact mJ 1 [(3,fo hc7),(4,fo hc8),(4,fo hc9),(4,fo hc10),(4,fo hc11),(4,fo hc12),(4,fo hc13)] (hJ2 _ (oj e2))
 exact mJ 1 [] (hJ _ (oj e))
theorem RL (n:Nat)(d:Au)(known:Int)(kind:Int)(who:Int)(r:Int)(h:CR n d known kind who=some r):Cd Tryz.prog 59 [.agg [hZ d.Facts,iP d.Stored,iP d.Owner],iP known,iP kind,iP who] (iP r):=by
 unfold CR at h
 refine vP ⟨[0,1,2,3,4,8,9,10,11,12,17,46],[]⟩ Tryz.func59 follows fun Q hQ=>?_
 refine mE 4 [] h (fun out=>⟨[(8,iP 0),(9,iP out)],[[hZ d.Facts,iP d.Stored,iP d.Owner]]⟩) ?_ fun y e hJ=>?_
 rintro out h
 cases h
 exact rt 1 [] hQ
 refine lF 1 [] (A:=(Int×Int×Int)) (fun n (out1,best,k)=>B4 n d kind who known out1 best k) (fun (out1,best,k)=>⟨[(1,iP known),(2,iP kind),(3,iP who),(4,.ptr 0 0),(8,iP 0),(9,iP out1),(10,iP best),(11,iP k)],[[hZ d.Facts,iP d.Stored,iP d.Owner]]⟩) (41667,-1,0) e (fun _=>rfl) ?_
 rintro n ⟨out1,best,k⟩ e ih
 replace e:=(B4.eq_2 ..).symm.trans e
 refine cD 1 [(3,fl BT d.Facts)] e (fun hc4 e=>?_) fun hc4 e=>?_
 obtain⟨x,hx,e⟩:=Ac e
 refine mE 2 [(3,fi BT hx)] e (fun v46=>⟨[(1,iP known),(2,iP kind),(3,iP who),(4,.ptr 0 0),(8,iP 0),(9,iP out1),(10,iP best),(11,iP k),(12,.ptr 1 0),(46,bP v46)],[[hZ d.Facts,iP d.Stored,iP d.Owner],[iP x.Kind,iP x.Who,iP x.Day,iP x.Known]]⟩) ?_ fun y1 e1 hJ1=>?_
 rintro v46 e
 refine cD 0 [] e (fun hc e=>?_) fun hc e=>?_
 exact mJ 3 [] (ih (_,_,_) e)
 exact mJ 1 [] (ih (_,_,_) e)
 rcases Ak e1 with⟨hc1,e1⟩|⟨hc1,e1⟩
 rcases Ak e1 with⟨hc2,e1⟩|⟨hc2,e1⟩
 rcases Ak e1 with⟨hc3,e1⟩|⟨hc3,e1⟩
 exact mJ 1 [(4,fo hc1),(5,fo hc2),(5,fo hc3)] (hJ1 _ (oj e1))
 exact mJ 1 [(4,fo hc1),(5,fo hc2),(5,fo hc3)] (hJ1 _ (oj e1))
 exact mJ 1 [(4,fo hc1),(5,fo hc2)] (hJ1 _ (oj e1))
 exact mJ 1 [(4,fo hc1)] (hJ1 _ (oj e1))
 exact mJ 1 [] (hJ _ (oj e))
theorem Ol (a_:Int)(b:Int)(r:Int)(h:Dg a_ b=some r):Cd Tryz.prog 61 [iP a_,iP b] (iP r):=by
 unfold Dg at h
 refine vP ⟨[0,1,4,5,6,7,8,14,28,45],[]⟩ Tryz.func61 follows fun Q hQ=>?_
 refine mE 2 [] h (fun v14=>⟨[(0,iP a_),(1,iP b),(4,iP 0),(5,iP 999999999999999),(14,bP v14)],[]⟩) ?_ fun y e hJ=>?_
 rintro v14 h
 refine cD 0 [] h (fun hc6 h=>?_) fun hc6 h=>?_
 cases h
 exact rt 1 [] hQ
 obtain⟨q,hq,h⟩:=Ac h
 refine mE 4 [(15,fz .i64 hq)] h (fun n_=>⟨[(0,iP a_),(1,iP b),(4,iP 0),(8,iP n_)],[]⟩) ?_ fun y1 e1 hJ1=>?_
 rintro n_ h
 refine mE 0 [] h (fun v45=>⟨[(4,iP 0),(8,iP n_),(45,bP v45)],[]⟩) ?_ fun y2 e2 hJ2=>?_
 rintro v45 h
 refine cD 0 [] h (fun hc h=>?_) fun hc h=>?_
 cases h
 exact rt 1 [] hQ
 cases h
 exact rt 1 [] hQ
 rcases Ak e2 with⟨hc1,e2⟩|⟨hc1,e2⟩
 rcases Ak e2 with⟨hc2,e2⟩|⟨hc2,e2⟩
 exact mJ 1 [(2,fo hc1),(3,fo hc2)] (hJ2 _ (oj e2))
 rcases Ak e2 with⟨hc3,e2⟩|⟨hc3,e2⟩
 exact mJ 1 [(2,fo hc1),(3,fo hc2),(2,fo hc3)] (hJ2 _ (oj e2))
 exact mJ 1 [(2,fo hc1),(3,fo hc2),(2,fo hc3)] (hJ2 _ (oj e2))
 rcases Ak e2 with⟨hc4,e2⟩|⟨hc4,e2⟩
 exact mJ 1 [(2,fo hc1),(6,fo hc4)] (hJ2 _ (oj e2))
 exact mJ 1 [(2,fo hc1),(6,fo hc4)] (hJ2 _ (oj e2))
 refine cD 0 [] e1 (fun hc5 e1=>?_) fun hc5 e1=>?_
 exact mJ 1 [] (hJ1 _ (oj e1))
 exact mJ 0 [] (hJ1 _ (oj e1))
 rcases Ak e with⟨hc7,e⟩|⟨hc7,e⟩
 exact mJ 1 [(2,fo hc7)] (hJ _ (oj e))
 exact mJ 1 [(2,fo hc7)] (hJ _ (oj e))
theorem QG (d:Int)(n_:Int)(r:Int)(h:DB d n_=some r):Cd Tryz.prog 62 [iP d,iP n_] (iP r):=by
 unfold DB at h
 refine vP ⟨[0,1,4,6],[]⟩ Tryz.func62 follows fun Q hQ=>?_
 refine cD 2 [] h (fun hc h=>?_) fun hc h=>?_
 cases h
 exact rt 1 [] hQ
 cases h
 exact rt 1 [] hQ
theorem P7 (n_:Int)(r:Int)(h:C4 n_=some r):Cd Tryz.prog 63 [iP n_] (iP r):=by
 unfold C4 at h
 refine vP ⟨[0,2],[]⟩ Tryz.func63 follows fun Q hQ=>?_
 cases h
 exact rt 2 [] hQ
theorem Fs (is_:Bool)(r:Int)(h:BH is_=some r):Cd Tryz.prog 106 [bP is_] (iP r):=by
 unfold BH at h
 refine vP ⟨[0,2,3],[]⟩ Tryz.func106 follows fun Q hQ=>?_
 refine cD 2 [] h (fun hc h=>?_) fun hc h=>?_
 cases h
 exact rt 1 [] hQ
 cases h
 exact rt 1 [] hQ
theorem Om (op:Int)(a_:Int)(b:Int)(r:Int)(h:F6 op a_ b=some r):Cd Tryz.prog 64 [iP op,iP a_,iP b] (iP r):=by
 unfold F6 at h
 refine vP ⟨[0,1,2,6,7,8,14,20,26,32],[]⟩ Tryz.func64 follows fun Q hQ=>?_
 refine cD 4 [] h (fun hc4 h=>?_) fun hc4 h=>?_
 obtain⟨t,ht,h⟩:=Ac h
 cases h
 exact rt 1 [(3,fk (Fs _ _ ht))] hQ
 refine cD 1 [] h (fun hc3 h=>?_) fun hc3 h=>?_
 obtain⟨t1,ht1,h⟩:=Ac h
 cases h
 exact rt 1 [(3,fk (Fs _ _ ht1))] hQ
 refine cD 1 [] h (fun hc2 h=>?_) fun hc2 h=>?_
 obtain⟨t2,ht2,h⟩:=Ac h
 cases h
 exact rt 1 [(3,fk (Fs _ _ ht2))] hQ
 refine cD 1 [] h (fun hc1 h=>?_) fun hc1 h=>?_
 obtain⟨t3,ht3,h⟩:=Ac h
 cases h
 exact rt 1 [(3,fk (Fs _ _ ht3))] hQ
 refine cD 1 [] h (fun hc h=>?_) fun hc h=>?_
 obtain⟨t4,ht4,h⟩:=Ac h
 cases h
 exact rt 1 [(3,fk (Fs _ _ ht4))] hQ
 obtain⟨t5,ht5,h⟩:=Ac h
 cases h
 exact rt 1 [(3,fk (Fs _ _ ht5))] hQ
theorem PB (n0:Nat)
 (ih_ref33_Eval:∀ m,m<=n0->∀ (e:Aa) (d:Au) (known:Int) (r:Int),Bo m e d known=some r->Cd Tryz.prog 36 [.agg [iP e.Op,iP e.N,tP e.S,hX e.Kids,iP e.At],.agg [hZ d.Facts,iP d.Stored,iP d.Owner],iP known] (iP r))
 (n:Nat) (hn:n<=n0) (e:Aa) (d:Au) (known:Int) (r:Int) (h:Bo (n+1) e d known=some r):Cd Tryz.prog 36 [.agg [iP e.Op,iP e.N,tP e.S,hX e.Kids,iP e.At],.agg [hZ d.Facts,iP d.Stored,iP d.Owner],iP known] (iP r):=by
 replace h:=(Bo.eq_2 ..).symm.trans h
 refine vP ⟨[0,1,2,3,4,6,7,8,9,10,11,16,31,32,36,39,40,42,46,50,53,54,61,68,77,95,101,107,116,124,144,156,165,174,179],[(5,[9999,0,0,1,2,3,4,5,6,7,8,9,10,11]),(25,[9999,0,0,1,2,3,4,5,6,7]),(27,[9999,0,0,1,2,3,4,5,6,7]),(28,[9999,0,0,1,2,3,5,6,7,4,8,9]),(34,[9999,0,0,1,2,3,4,5,6,7]),(46,[9999,0,0,1,2,3,4,5,6,7]),(48,[9999,0,0,1,2,3,4,5,6,7]),(53,[9999,0,0,1,2,3,4,5,6,7,8,9])]⟩ Tryz.func36 follows fun Q hQ=>?_
 refine mE 3 [] h (fun x=>⟨[(2,iP known),(3,.ptr 0 0),(4,.ptr 1 0),(6,iP 0),(7,oI x)],[[iP e.Op,iP e.N,tP e.S,hX e.Kids,iP e.At],[hZ d.Facts,iP d.Stored,iP d.Owner]]⟩) ?_ fun y e1 hJ=>?_
 rintro x h
 refine cD 3 [] h (fun hc22 h=>?_) fun hc22 h=>?_
 cases h
 exact rt 1 [] hQ
 refine cD 1 [] h (fun hc21 h=>?_) fun hc21 h=>?_
 refine cD 3 [] h (fun hc2 h=>?_) fun hc2 h=>?_
 cases h
 exact rt 1 [] hQ
 refine cD 1 [] h (fun hc1 h=>?_) fun hc1 h=>?_
 cases h
 exact rt 1 [] hQ
 refine cD 1 [] h (fun hc h=>?_) fun hc h=>?_
 cases h
 exact rt 1 [] hQ
 cases h
 exact rt 1 [] hQ
 refine cD 1 [] h (fun hc20 h=>?_) fun hc20 h=>?_
 refine cD 3 [] h (fun hc6 h=>?_) fun hc6 h=>?_
 obtain⟨x1,hx1,h⟩:=Ac h
 cases h
 exact rt 1 [(1,fi Aw hx1)] hQ
 refine cD 1 [] h (fun hc5 h=>?_) fun hc5 h=>?_
 obtain⟨x2,hx2,h⟩:=Ac h
 cases h
 exact rt 1 [(1,fi Aw hx2)] hQ
 refine cD 1 [] h (fun hc4 h=>?_) fun hc4 h=>?_
 obtain⟨x3,hx3,h⟩:=Ac h
 obtain⟨x4,hx4,h⟩:=Ac h
 cases h
 exact rt 1 [(1,fi Aw hx3),(2,fi Aw hx4)] hQ
 refine cD 1 [] h (fun hc3 h=>?_) fun hc3 h=>?_
 obtain⟨x5,hx5,h⟩:=Ac h
 obtain⟨x6,hx6,h⟩:=Ac h
 cases h
 exact rt 1 [(1,fi Aw hx5),(2,fi Aw hx6)] hQ
 obtain⟨x7,hx7,h⟩:=Ac h
 obtain⟨f,hf,h⟩:=Ac h
 obtain⟨l,hl,h⟩:=Ac h
 cases h
 exact rt 1 [(5,fi Aw hx7),(1,fk (LZ _ _ hf)),(0,fk (RL _ _ _ _ _ _ hl))] hQ
 refine cD 1 [] h (fun hc19 h=>?_) fun hc19 h=>?_
 obtain⟨x8,hx8,h⟩:=Ac h
 cases h
 exact rt 1 [(1,fi Aw hx8)] hQ
 refine cD 1 [] h (fun hc18 h=>?_) fun hc18 h=>?_
 obtain⟨x9,hx9,h⟩:=Ac h
 cases h
 exact rt 1 [(1,fi Aw hx9)] hQ
 refine cD 1 [] h (fun hc17 h=>?_) fun hc17 h=>?_
 obtain⟨x10,hx10,h⟩:=Ac h
 obtain⟨x11,hx11,h⟩:=Ac h
 obtain⟨p,hp,h⟩:=Ac h
 cases h
 exact rt 1 [(1,fi Aw hx10),(2,fi Aw hx11),(1,fk (Ol _ _ _ hp))] hQ
 refine mE 1 [] h (fun v116=>⟨[(3,.ptr 0 0),(6,iP 0),(7,oI x),(31,iP e.Op),(116,bP v116)],[[iP e.Op,iP e.N,tP e.S,hX e.Kids,iP e.At],[hZ d.Facts,iP d.Stored,iP d.Owner]]⟩) ?_ fun y1 e2 hJ1=>?_
 rintro v116 h
 refine cD 0 [] h (fun hc15 h=>?_) fun hc15 h=>?_
 obtain⟨x12,hx12,h⟩:=Ac h
 refine mE 2 [(1,fi Aw hx12)] h (fun n_=>⟨[(3,.ptr 0 0),(6,iP 0),(7,oI x),(9,iP n_)],[[iP e.Op,iP e.N,tP e.S,hX e.Kids,iP e.At],[hZ d.Facts,iP d.Stored,iP d.Owner]]⟩) ?_ fun y2 e3 hJ2=>?_
 rintro n_ h
 obtain⟨x13,hx13,h⟩:=Ac h
 obtain⟨left,hleft,h⟩:=Ac h
 obtain⟨x14,hx14,h⟩:=Ac h
 obtain⟨right,hright,h⟩:=Ac h
 refine mE 2 [(2,fi A2 hx13),(1,fk (I6 _ _ _ hleft)),(4,fi A2 hx14),(1,fk (I6 _ _ _ hright))] h (fun v144=>⟨[(3,.ptr 0 0),(6,iP 0),(7,oI x),(9,iP n_),(144,bP v144)],[[iP e.Op,iP e.N,tP e.S,hX e.Kids,iP e.At],[hZ d.Facts,iP d.Stored,iP d.Owner],[iP left.T,iP left.P.At,iP left.P.E],[iP right.T,iP right.P.At,iP right.P.E]]⟩) ?_ fun y3 e4 hJ3=>?_
 rintro v144 h
 refine cD 0 [] h (fun hc7 h=>?_) fun hc7 h=>?_
 obtain⟨x15,hx15,h⟩:=Ac h
 obtain⟨m_,hm_,h⟩:=Ac h
 cases h
 exact rt 1 [(1,fi Aw hx15),(2,fk (QG _ _ _ hm_))] hQ
 obtain⟨x16,hx16,h⟩:=Ac h
 obtain⟨n_1,hn_1,h⟩:=Ac h
 cases h
 exact rt 1 [(1,fi Aw hx16),(3,fk (P7 _ _ hn_1))] hQ
 rcases Ak e4 with⟨hc8,e4⟩|⟨hc8,e4⟩
 exact mJ 1 [(3,fo hc8)] (hJ3 _ (oj e4))
 exact mJ 1 [(3,fo hc8)] (hJ3 _ (oj e4))
 refine cD 0 [] e3 (fun hc9 e3=>?_) fun hc9 e3=>?_
 exact mJ 1 [] (hJ2 _ (oj e3))
 exact mJ 0 [] (hJ2 _ (oj e3))
 refine cD 1 [] h (fun hc14 h=>?_) fun hc14 h=>?_
 obtain⟨x17,hx17,h⟩:=Ac h
 obtain⟨x18,hx18,h⟩:=Ac h
 cases h
 exact rt 1 [(1,fi Aw hx17),(2,fi Aw hx18)] hQ
 refine cD 1 [] h (fun hc13 h=>?_) fun hc13 h=>?_
 obtain⟨x19,hx19,h⟩:=Ac h
 obtain⟨x20,hx20,h⟩:=Ac h
 cases h
 exact rt 1 [(1,fi Aw hx19),(2,fi Aw hx20)] hQ
 refine cD 1 [] h (fun hc12 h=>?_) fun hc12 h=>?_
 obtain⟨x21,hx21,h⟩:=Ac h
 refine cD 1 [(1,fi Aw hx21)] h (fun hc10 h=>?_) fun hc10 h=>?_
 obtain⟨x22,hx22,h⟩:=Ac h
 cases h
 exact rt 1 [(1,fi Aw hx22)] hQ
 obtain⟨x23,hx23,h⟩:=Ac h
 cases h
 exact rt 1 [(1,fi Aw hx23)] hQ
 obtain⟨x24,hx24,h⟩:=Ac h
 obtain⟨x25,hx25,h⟩:=Ac h
 obtain⟨c,hc11,h⟩:=Ac h
 cases h
 exact rt 1 [(3,fi Aw hx24),(2,fi Aw hx25),(1,fk (Om _ _ _ _ hc11))] hQ
 refine cD 0 [] e2 (fun hc16 e2=>?_) fun hc16 e2=>?_
 exact mJ 0 [] (hJ1 _ (oj e2))
 exact mJ 1 [] (hJ1 _ (oj e2))
 refine lR 1 [] (A:=((List Int)×Int)) (fun n (x26,k)=>BV n e d known x26 k) (fun (x26,k)=>⟨[(2,iP known),(3,.ptr 0 0),(4,.ptr 1 0),(6,iP 0),(7,oI x26),(8,iP k)],[[iP e.Op,iP e.N,tP e.S,hX e.Kids,iP e.At],[hZ d.Facts,iP d.Stored,iP d.Owner]]⟩) ([],0) hn e1 (fun _=>rfl) ?_
 rintro n ⟨x26,k⟩ hn e1 ih
 replace e1:=(BV.eq_2 ..).symm.trans e1
 refine cD 1 [(3,fl A2 e.Kids)] e1 (fun hc23 e1=>?_) fun hc23 e1=>?_
 obtain⟨x27,hx27,e1⟩:=Ac e1
 obtain⟨e5,he5,e1⟩:=Ac e1
 obtain⟨l1,hl1,e1⟩:=Ac e1
 obtain⟨l2,hl2,e1⟩:=Ac e1
 exact mJ 3 [(4,fi A2 hx27),(3,fk (ih_ref33_Eval _ hn _ _ _ _ he5)),(0,fB Aw hl1),(0,fa Aw hl2)] (ih (_,_) e1)
 exact mJ 1 [] (hJ _ (oj e1))
theorem Ks:∀ n:Nat,(∀ m,m<=n->∀ (e:Aa) (d:Au) (known:Int) (r:Int),Bo m e d known=some r->Cd Tryz.prog 36 [.agg [iP e.Op,iP e.N,tP e.S,hX e.Kids,iP e.At],.agg [hZ d.Facts,iP d.Stored,iP d.Owner],iP known] (iP r))
 |0=>(fun m hm e d known r h=>by
  obtain rfl:m=0:=by omega
  exact absurd h (by simp [Bo]))
 |n+1=>by
  have ih:=Ks n
  exact fun m hm e d known r h=>by
   cases m with
   |zero=>exact absurd h (by simp [Bo])
   |succ m=>exact PB n (ih) m (by omega) e d known _ h
theorem FL (n:Nat)(e:Aa)(d:Au)(known:Int)(r:Int)(h:Bo n e d known=some r):Cd Tryz.prog 36 [.agg [iP e.Op,iP e.N,tP e.S,hX e.Kids,iP e.At],.agg [hZ d.Facts,iP d.Stored,iP d.Owner],iP known] (iP r) :=
 (Ks n) n (Nat.le_refl _) e d known r h
theorem Ma (n:Nat)(e:Aa)(d:Au)(known:Int)(r:Gf)(h:FR n e d known=some r):Cd Tryz.prog 12 [.agg [iP e.Op,iP e.N,tP e.S,hX e.Kids,iP e.At],.agg [hZ d.Facts,iP d.Stored,iP d.Owner],iP known] (.agg [iP r.N,iP r.E]):=by
 unfold FR at h
 refine vP ⟨[0,1,2,3,4,6,7,8,14,23],[]⟩ Tryz.func12 follows fun Q hQ=>?_
 obtain⟨t,ht,h⟩:=Ac h
 refine cD 3 [(4,fk (I6 _ _ _ ht))] h (fun hc1 h=>?_) fun hc1 h=>?_
 cases h
 exact rt 1 [] hQ
 obtain⟨x,hx,h⟩:=Ac h
 refine cD 2 [(2,fk (En _ _ _ _ hx))] h (fun hc h=>?_) fun hc h=>?_
 cases h
 exact rt 1 [] hQ
 obtain⟨e1,he1,h⟩:=Ac h
 cases h
 exact rt 1 [(3,fk (FL _ _ _ _ _ he1))] hQ
theorem P9 (n:Nat)(s:ByteArray)(r:Bool)(h:Fv n s=some r):Cd Tryz.prog 52 [tP s] (bP r):=by
 unfold Fv at h
 refine vP ⟨[0,2,3,4,5,13,17,54],[]⟩ Tryz.func52 follows fun Q hQ=>?_
 refine mE 1 [] h (fun v13=>⟨[(0,tP s),(2,bP false),(13,bP v13)],[]⟩) ?_ fun y e hJ=>?_
 rintro v13 h
 refine cD 0 [] h (fun hc12 h=>?_) fun hc12 h=>?_
 cases h
 exact rt 1 [] hQ
 refine mI 1 [] h (fun _=>⟨[(2,bP false)],[]⟩) ?_ fun y1 e1 h hJ1=>?_
 rintro _ h
 cases h
 exact rt 1 [] hQ
 refine lF 1 [] (A:=Int) (fun n k=>BM n s k) (fun k=>⟨[(0,tP s),(2,bP false),(3,iP k)],[]⟩) 0 e1 (fun _=>rfl) ?_
 rintro n k e1 ih
 replace e1:=(BM.eq_2 ..).symm.trans e1
 refine cD 1 [] e1 (fun hc11 e1=>?_) fun hc11 e1=>?_
 obtain⟨c,hc,e1⟩:=Ac e1
 refine mE 2 [(2,fb hc)] e1 (fun letter=>⟨[(0,tP s),(2,bP false),(3,iP k),(4,uP c),(5,bP letter)],[]⟩) ?_ fun y2 e2 hJ2=>?_
 rintro letter e1
 refine mE 0 [] e1 (fun v54=>⟨[(0,tP s),(2,bP false),(3,iP k),(54,bP v54)],[]⟩) ?_ fun y3 e3 hJ3=>?_
 rintro v54 e1
 refine cD 0 [] e1 (fun hc1 e1=>?_) fun hc1 e1=>?_
 cases e1
 cases h
 exact rt 1 [] hQ
 exact mJ 1 [] (ih _ e1)
 rcases Ak e3 with⟨hc2,e3⟩|⟨hc2,e3⟩
 rcases Ak e3 with⟨hc3,e3⟩|⟨hc3,e3⟩
 exact mJ 1 [(2,fo hc2),(2,fo hc3)] (hJ3 _ (oj e3))
 rcases Ak e3 with⟨hc4,e3⟩|⟨hc4,e3⟩
 exact mJ 1 [(2,fo hc2),(2,fo hc3),(3,fo hc4)] (hJ3 _ (oj e3))
 exact mJ 1 [(2,fo hc2),(2,fo hc3),(3,fo hc4)] (hJ3 _ (oj e3))
 exact mJ 1 [(2,fo hc2)] (hJ3 _ (oj e3))
 rcases Ak e2 with⟨hc5,e2⟩|⟨hc5,e2⟩
 rcases Ak e2 with⟨hc6,e2⟩|⟨hc6,e2⟩
 exact mJ 1 [(2,fo hc5),(3,fo hc6)] (hJ2 _ (oj e2))
 rcases Ak e2 with⟨hc7,e2⟩|⟨hc7,e2⟩
 rcases Ak e2 with⟨hc8,e2⟩|⟨hc8,e2⟩
 exact mJ 1 [(2,fo hc5),(3,fo hc6),(2,fo hc7),(4,fo hc8)] (hJ2 _ (oj e2))
 exact mJ 1 [(2,fo hc5),(3,fo hc6),(2,fo hc7),(4,fo hc8)] (hJ2 _ (oj e2))
 exact mJ 1 [(2,fo hc5),(3,fo hc6),(2,fo hc7)] (hJ2 _ (oj e2))
 rcases Ak e2 with⟨hc9,e2⟩|⟨hc9,e2⟩
 rcases Ak e2 with⟨hc10,e2⟩|⟨hc10,e2⟩
 exact mJ 1 [(2,fo hc5),(6,fo hc9),(4,fo hc10)] (hJ2 _ (oj e2))
 exact mJ 1 [(2,fo hc5),(6,fo hc9),(4,fo hc10)] (hJ2 _ (oj e2))
 exact mJ 1 [(2,fo hc5),(6,fo hc9)] (hJ2 _ (oj e2))
 exact mJ 1 [] (hJ1 _ (oj e1))
 rcases Ak e with⟨hc13,e⟩|⟨hc13,e⟩
 exact mJ 1 [(3,fo hc13)] (hJ _ (oj e))
 exact mJ 1 [(3,fo hc13)] (hJ _ (oj e))
theorem QF (n:Nat)(l:(List Aj))(s:ByteArray)(r:Bool)(h:FQ n l s=some r):Cd Tryz.prog 53 [hC l,tP s] (bP r):=by
 unfold FQ at h
 refine vP ⟨[0,1,4,5,9,18],[]⟩ Tryz.func53 follows fun Q hQ=>?_
 refine mI 2 [] h (fun _=>⟨[(4,bP false)],[]⟩) ?_ fun y e h hJ=>?_
 rintro _ h
 cases h
 exact rt 1 [] hQ
 refine lF 1 [] (A:=Int) (fun n k=>BU n l s k) (fun k=>⟨[(0,hC l),(1,tP s),(4,bP false),(5,iP k)],[]⟩) 0 e (fun _=>rfl) ?_
 rintro n k e ih
 replace e:=(BU.eq_2 ..).symm.trans e
 refine cD 1 [(2,fl Ai l)] e (fun hc1 e=>?_) fun hc1 e=>?_
 obtain⟨x,hx,e⟩:=Ac e
 refine cD 2 [(2,fi Ai hx)] e (fun hc e=>?_) fun hc e=>?_
 cases e
 cases h
 exact rt 1 [] hQ
 exact mJ 1 [] (ih _ e)
 exact mJ 1 [] (hJ _ (oj e))
theorem QH (n:Nat)(l:(List Aj))(r:Int)(h:Hb n l=some r):Cd Tryz.prog 25 [hC l] (iP r):=by
 unfold Hb at h
 refine vP ⟨[0,2,3,4,5,6,7,8,11,15,26,33,41,84,86,96,115],[(10,[9999,0,0,1,2,3,4,5,6])]⟩ Tryz.func25 follows fun Q hQ=>?_
 refine cD 2 [(2,fl Ai l)] h (fun hc23 h=>?_) fun hc23 h=>?_
 cases h
 exact rt 1 [] hQ
 refine mI 1 [] h (fun _=>⟨[(2,iP 0)],[]⟩) ?_ fun y e h hJ=>?_
 rintro _ h
 cases h
 exact rt 1 [] hQ
 refine lF 1 [] (A:=Int) (fun n i=>CA n l i) (fun i=>⟨[(0,hC l),(2,iP 0),(3,iP i)],[]⟩) 0 e (fun _=>rfl) ?_
 rintro n i e ih
 replace e:=(CA.eq_2 ..).symm.trans e
 refine cD 1 [(2,fl Ai l)] e (fun hc22 e=>?_) fun hc22 e=>?_
 obtain⟨x,hx,e⟩:=Ac e
 obtain⟨name,hname,e⟩:=Ac e
 refine cD 4 [(2,fi Ai hx),(5,fk (P9 _ _ _ hname))] e (fun hc21 e=>?_) fun hc21 e=>?_
 cases e
 cases h
 exact rt 1 [] hQ
 obtain⟨l1,hl1,e⟩:=Ac e
 obtain⟨again,hagain,e⟩:=Ac e
 refine cD 2 [(2,fsl Ai hl1),(2,fk (QF _ _ _ _ hagain))] e (fun hc20 e=>?_) fun hc20 e=>?_
 cases e
 cases h
 exact rt 1 [] hQ
 refine mE 0 [] e (fun v41=>⟨[(0,hC l),(2,iP 0),(3,iP i),(4,.ptr 0 0),(41,bP v41)],[[tP x.Name,iP x.Kind,iP x.Rank,iP x.Known,iP x.From.Op,iP x.From.N,tP x.From.S,hX x.From.Kids,iP x.From.At,iP x.To.Op,iP x.To.N,tP x.To.S,hX x.To.Kids,iP x.To.At,iP x.When.Op,iP x.When.N,tP x.When.S,hX x.When.Kids,iP x.When.At,iP x.Houses]]⟩) ?_ fun y1 e1 hJ1=>?_
 rintro v41 e
 refine cD 0 [] e (fun hc18 e=>?_) fun hc18 e=>?_
 cases e
 cases h
 exact rt 1 [] hQ
 refine mE 0 [] e (fun v84=>⟨[(0,hC l),(2,iP 0),(3,iP i),(4,.ptr 0 0),(84,bP v84)],[[tP x.Name,iP x.Kind,iP x.Rank,iP x.Known,iP x.From.Op,iP x.From.N,tP x.From.S,hX x.From.Kids,iP x.From.At,iP x.To.Op,iP x.To.N,tP x.To.S,hX x.To.Kids,iP x.To.At,iP x.When.Op,iP x.When.N,tP x.When.S,hX x.When.Kids,iP x.When.At,iP x.Houses]]⟩) ?_ fun y2 e2 hJ2=>?_
 rintro v84 e
 refine cD 0 [] e (fun hc7 e=>?_) fun hc7 e=>?_
 cases e
 cases h
 exact rt 1 [] hQ
 refine mI 1 [] e (fun _=>⟨[(0,hC l),(2,iP 0),(3,iP i)],[[tP x.Name,iP x.Kind,iP x.Rank,iP x.Known,iP x.From.Op,iP x.From.N,tP x.From.S,hX x.From.Kids,iP x.From.At,iP x.To.Op,iP x.To.N,tP x.To.S,hX x.To.Kids,iP x.To.At,iP x.When.Op,iP x.When.N,tP x.When.S,hX x.When.Kids,iP x.When.At,iP x.Houses]]⟩) ?_ fun y3 e3 e hJ3=>?_
 rintro _ e
 exact mJ 1 [] (ih _ e)
 refine lF 1 [] (A:=Int) (fun n k=>Bp n x k) (fun k=>⟨[(0,hC l),(2,iP 0),(3,iP i),(4,.ptr 0 0),(7,iP k)],[[tP x.Name,iP x.Kind,iP x.Rank,iP x.Known,iP x.From.Op,iP x.From.N,tP x.From.S,hX x.From.Kids,iP x.From.At,iP x.To.Op,iP x.To.N,tP x.To.S,hX x.To.Kids,iP x.To.At,iP x.When.Op,iP x.When.N,tP x.When.S,hX x.When.Kids,iP x.When.At,iP x.Houses]]⟩) 0 e3 (fun _=>rfl) ?_
 rintro n k e3 ih1
 replace e3:=(Bp.eq_2 ..).symm.trans e3
 refine cD 1 [] e3 (fun hc6 e3=>?_) fun hc6 e3=>?_
 obtain⟨p,hp,e3⟩:=Ac e3
 obtain⟨t,ht,e3⟩:=Ac e3
 refine cD 3 [(2,fk (Nk _ _ _ hp)),(0,fk (I6 _ _ _ ht))] e3 (fun hc5 e3=>?_) fun hc5 e3=>?_
 cases e3
 cases e
 cases h
 exact rt 1 [] hQ
 refine mE 0 [] e3 (fun v115=>⟨[(0,hC l),(2,iP 0),(3,iP i),(4,.ptr 0 0),(7,iP k),(115,bP v115)],[[tP x.Name,iP x.Kind,iP x.Rank,iP x.Known,iP x.From.Op,iP x.From.N,tP x.From.S,hX x.From.Kids,iP x.From.At,iP x.To.Op,iP x.To.N,tP x.To.S,hX x.To.Kids,iP x.To.At,iP x.When.Op,iP x.When.N,tP x.When.S,hX x.When.Kids,iP x.When.At,iP x.Houses],[iP t.T,iP t.P.At,iP t.P.E]]⟩) ?_ fun y4 e4 hJ4=>?_
 rintro v115 e3
 refine cD 0 [] e3 (fun hc e3=>?_) fun hc e3=>?_
 cases e3
 cases e
 cases h
 exact rt 1 [] hQ
 exact mJ 1 [] (ih1 _ e3)
 rcases Ak e4 with⟨hc1,e4⟩|⟨hc1,e4⟩
 rcases Ak e4 with⟨hc2,e4⟩|⟨hc2,e4⟩
 exact mJ 1 [(2,fo hc1),(4,fo hc2)] (hJ4 _ (oj e4))
 rcases Ak e4 with⟨hc3,e4⟩|⟨hc3,e4⟩
 exact mJ 1 [(2,fo hc1),(4,fo hc2),(2,fo hc3)] (hJ4 _ (oj e4))
 exact mJ 1 [(2,fo hc1),(4,fo hc2),(2,fo hc3)] (hJ4 _ (oj e4))
 rcases Ak e4 with⟨hc4,e4⟩|⟨hc4,e4⟩
 exact mJ 1 [(2,fo hc1),(7,fo hc4)] (hJ4 _ (oj e4))
 exact mJ 1 [(2,fo hc1),(7,fo hc4)] (hJ4 _ (oj e4))
 exact mJ 1 [] (hJ3 _ (oj e3))
 rcases Ak e2 with⟨hc8,e2⟩|⟨hc8,e2⟩
 exact mJ 1 [(3,fo hc8)] (hJ2 _ (oj e2))
 rcases Ak e2 with⟨hc9,e2⟩|⟨hc9,e2⟩
 exact mJ 1 [(3,fo hc8),(4,fo hc9)] (hJ2 _ (oj e2))
 rcases Ak e2 with⟨hc10,e2⟩|⟨hc10,e2⟩
 exact mJ 1 [(3,fo hc8),(4,fo hc9),(4,fo hc10)] (hJ2 _ (oj e2))
 rcases Ak e2 with⟨hc11,e2⟩|⟨hc11,e2⟩
 exact mJ 1 [(3,fo hc8),(4,fo hc9),(4,fo hc10),(4,fo hc11)] (hJ2 _ (oj e2))
 rcases Ak e2 with⟨hc12,e2⟩|⟨hc12,e2⟩
 rcases Ak e2 with⟨hc13,e2⟩|⟨hc13,e2⟩
 exact mJ 1 [(3,fo hc8),(4,fo hc9),(4,fo hc10),(4,fo hc11),(3,fo hc12),(5,fo hc13)] (hJ2 _ (oj e2))
 rcases Ak e2 with⟨hc14,e2⟩|⟨hc14,e2⟩
 rcases Ak e2 with⟨hc15,e2⟩|⟨hc15,e2⟩
 exact mJ 1 [(3,fo hc8),(4,fo hc9),(4,fo hc10),(4,fo hc11),(3,fo hc12),(5,fo hc13),(3,fo hc14),(3,fo hc15)] (hJ2 _ (oj e2))
 exact mJ 1 [(3,fo hc8),(4,fo hc9),(4,fo hc10),(4,fo hc11),(3,fo hc12),(5,fo hc13),(3,fo hc14),(3,fo hc15)] (hJ2 _ (oj e2))
 exact mJ 1 [(3,fo hc8),(4,fo hc9),(4,fo hc10),(4,fo hc11),(3,fo hc12),(5,fo hc13),(3,fo hc14)] (hJ2 _ (oj e2))
 rcases Ak e2 with⟨hc16,e2⟩|⟨hc16,e2⟩
 rcases Ak e2 with⟨hc17,e2⟩|⟨hc17,e2⟩
 exact mJ 1 [(3,fo hc8),(4,fo hc9),(4,fo hc10),(4,fo hc11),(3,fo hc12),(9,fo hc16),(3,fo hc17)] (hJ2 _ (oj e2))
 exact mJ 1 [(3,fo hc8),(4,fo hc9),(4,fo hc10),(4,fo hc11),(3,fo hc12),(9,fo hc16),(3,fo hc17)] (hJ2 _ (oj e2))
 exact mJ 1 [(3,fo hc8),(4,fo hc9),(4,fo hc10),(4,fo hc11),(3,fo hc12),(9,fo hc16)] (hJ2 _ (oj e2))
 rcases Ak e1 with⟨hc19,e1⟩|⟨hc19,e1⟩
 exact mJ 1 [(3,fo hc19)] (hJ1 _ (oj e1))
 exact mJ 1 [(3,fo hc19)] (hJ1 _ (oj e1))
 exact mJ 1 [] (hJ _ (oj e))
theorem RJ (n:Nat)(c:Aj)(d:Au)(known:Int)(r:F7)(h:Ie n c d known=some r):Cd Tryz.prog 14 [.agg [tP c.Name,iP c.Kind,iP c.Rank,iP c.Known,iP c.From.Op,iP c.From.N,tP c.From.S,hX c.From.Kids,iP c.From.At,iP c.To.Op,iP c.To.N,tP c.To.S,hX c.To.Kids,iP c.To.At,iP c.When.Op,iP c.When.N,tP c.When.S,hX c.When.Kids,iP c.When.At,iP c.Houses],.agg [hZ d.Facts,iP d.Stored,iP d.Owner],iP known] (.agg [iP r.From,iP r.To,bP r.Is,iP r.E]):=by
 unfold Ie at h
 refine vP ⟨[0,1,2,3,4,6,7,12,19],[(7,[9999,0,0,1,2,3,5,6,7,8,10,11,12,13,4,9,14,15,16,17,18,19,20,21,22,23])]⟩ Tryz.func14 follows fun Q hQ=>?_
 obtain⟨l,hl,h⟩:=Ac h
 obtain⟨e,he,h⟩:=Ac h
 refine cD 3 [(4,fB Ai hl),(0,fk (QH _ _ _ he))] h (fun hc2 h=>?_) fun hc2 h=>?_
 cases h
 exact rt 1 [] hQ
 obtain⟨e1,he1,h⟩:=Ac h
 refine cD 2 [(2,fk (En _ _ _ _ he1))] h (fun hc1 h=>?_) fun hc1 h=>?_
 cases h
 exact rt 1 [] hQ
 refine mE 0 [] h (fun (q,q1,q2)=>⟨[(6,.ptr 2 0)],[[tP c.Name,iP c.Kind,iP c.Rank,iP c.Known,iP c.From.Op,iP c.From.N,tP c.From.S,hX c.From.Kids,iP c.From.At,iP c.To.Op,iP c.To.N,tP c.To.S,hX c.To.Kids,iP c.To.At,iP c.When.Op,iP c.When.N,tP c.When.S,hX c.When.Kids,iP c.When.At,iP c.Houses],[hZ d.Facts,iP d.Stored,iP d.Owner],[iP q,iP q1,bP q2,iP 0]]⟩) ?_ fun y e2 hJ=>?_
 rintro⟨q,q1,q2⟩ h
 cases h
 exact rt 0 [] hQ
 obtain⟨e3,he3,e2⟩:=Ac e2
 obtain⟨e4,he4,e2⟩:=Ac e2
 rcases Ak e2 with⟨hc,e2⟩|⟨hc,e2⟩
 obtain⟨e5,he5,e2⟩:=Ac e2
 exact mJ 1 [(12,fk (FL _ _ _ _ _ he3)),(0,fk (FL _ _ _ _ _ he4)),(0,fo hc),(4,fk (FL _ _ _ _ _ he5))] (hJ _ (oj e2))
 exact mJ 1 [(12,fk (FL _ _ _ _ _ he3)),(0,fk (FL _ _ _ _ _ he4)),(0,fo hc)] (hJ _ (oj e2))
theorem Kd (n:Nat)(a_:(List Aj))(b:(List Aj))(offsets:Bool)(r:Bool)(h:LD n a_ b offsets=some r):Cd Tryz.prog 19 [hC a_,hC b,bP offsets] (bP r):=by
 unfold LD at h
 refine vP ⟨[0,1,2,6,7,8,9,10,11,12,17,21,94],[]⟩ Tryz.func19 follows fun Q hQ=>?_
 refine cD 2 [(2,fl Ai a_),(1,fl Ai b)] h (fun hc9 h=>?_) fun hc9 h=>?_
 cases h
 exact rt 1 [] hQ
 refine mI 1 [] h (fun _=>⟨[(6,bP false)],[]⟩) ?_ fun y e h hJ=>?_
 rintro _ h
 cases h
 exact rt 1 [] hQ
 refine lF 1 [] (A:=Int) (fun n k=>GO n a_ b offsets k) (fun k=>⟨[(0,hC a_),(1,hC b),(2,bP offsets),(6,bP false),(7,iP k)],[]⟩) 0 e (fun _=>rfl) ?_
 rintro n k e ih
 replace e:=(GO.eq_2 ..).symm.trans e
 refine cD 1 [(2,fl Ai a_)] e (fun hc8 e=>?_) fun hc8 e=>?_
 obtain⟨x,hx,e⟩:=Ac e
 obtain⟨x1,hx1,e⟩:=Ac e
 obtain⟨from_,hfrom_,e⟩:=Ac e
 obtain⟨to,hto,e⟩:=Ac e
 obtain⟨when,hwhen,e⟩:=Ac e
 refine mE 6 [(2,fi Ai hx),(5,fi Ai hx1),(8,fk (Hi _ _ _ _ _ hfrom_)),(6,fk (Hi _ _ _ _ _ hto)),(6,fk (Hi _ _ _ _ _ hwhen))] e (fun v94=>⟨[(0,hC a_),(1,hC b),(2,bP offsets),(6,bP false),(7,iP k),(94,bP v94)],[[tP x.Name,iP x.Kind,iP x.Rank,iP x.Known,iP x.From.Op,iP x.From.N,tP x.From.S,hX x.From.Kids,iP x.From.At,iP x.To.Op,iP x.To.N,tP x.To.S,hX x.To.Kids,iP x.To.At,iP x.When.Op,iP x.When.N,tP x.When.S,hX x.When.Kids,iP x.When.At,iP x.Houses],[tP x1.Name,iP x1.Kind,iP x1.Rank,iP x1.Known,iP x1.From.Op,iP x1.From.N,tP x1.From.S,hX x1.From.Kids,iP x1.From.At,iP x1.To.Op,iP x1.To.N,tP x1.To.S,hX x1.To.Kids,iP x1.To.At,iP x1.When.Op,iP x1.When.N,tP x1.When.S,hX x1.When.Kids,iP x1.When.At,iP x1.Houses]]⟩) ?_ fun y1 e1 hJ1=>?_
 rintro v94 e
 refine cD 0 [] e (fun hc e=>?_) fun hc e=>?_
 cases e
 cases h
 exact rt 1 [] hQ
 exact mJ 1 [] (ih _ e)
 rcases Ak e1 with⟨hc1,e1⟩|⟨hc1,e1⟩
 exact mJ 1 [(2,fo hc1)] (hJ1 _ (oj e1))
 rcases Ak e1 with⟨hc2,e1⟩|⟨hc2,e1⟩
 exact mJ 1 [(2,fo hc1),(3,fo hc2)] (hJ1 _ (oj e1))
 rcases Ak e1 with⟨hc3,e1⟩|⟨hc3,e1⟩
 exact mJ 1 [(2,fo hc1),(3,fo hc2),(3,fo hc3)] (hJ1 _ (oj e1))
 rcases Ak e1 with⟨hc4,e1⟩|⟨hc4,e1⟩
 exact mJ 1 [(2,fo hc1),(3,fo hc2),(3,fo hc3),(6,fo hc4)] (hJ1 _ (oj e1))
 rcases Ak e1 with⟨hc5,e1⟩|⟨hc5,e1⟩
 exact mJ 1 [(2,fo hc1),(3,fo hc2),(3,fo hc3),(6,fo hc4),(6,fo hc5)] (hJ1 _ (oj e1))
 rcases Ak e1 with⟨hc6,e1⟩|⟨hc6,e1⟩
 exact mJ 1 [(2,fo hc1),(3,fo hc2),(3,fo hc3),(6,fo hc4),(6,fo hc5),(6,fo hc6)] (hJ1 _ (oj e1))
 rcases Ak e1 with⟨hc7,e1⟩|⟨hc7,e1⟩
 exact mJ 1 [(2,fo hc1),(3,fo hc2),(3,fo hc3),(6,fo hc4),(6,fo hc5),(6,fo hc6),(6,fo hc7)] (hJ1 _ (oj e1))
 exact mJ 1 [(2,fo hc1),(3,fo hc2),(3,fo hc3),(6,fo hc4),(6,fo hc5),(6,fo hc6),(6,fo hc7)] (hJ1 _ (oj e1))
 exact mJ 1 [] (hJ _ (oj e))
end Go.Proofs.YtkcfmlfkfagejaaGreatDoor
