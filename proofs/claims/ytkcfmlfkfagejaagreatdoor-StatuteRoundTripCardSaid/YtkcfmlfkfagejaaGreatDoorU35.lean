/-
  The walks of chapter 33: the reference: the program computes the plain functions. (Printed by lift.py.)
-/
import Derived.Test.YtkcfmlfkfagejaaGreatDoorU7
import Derived.Test.YtkcfmlfkfagejaaGreatDoorU16
import Derived.Test.YtkcfmlfkfagejaaGreatDoorU25
import Derived.Test.YtkcfmlfkfagejaaGreatDoorU34
set_option linter.unusedVariables false
set_option linter.unusedSimpArgs false
namespace Go.Proofs.YtkcfmlfkfagejaaGreatDoor
open Go.RowKit Go.Q Go.Vl Go.Sp
set_option maxRecDepth 100000
set_option linter.unusedSimpArgs false
set_option maxHeartbeats 4000000
set_option linter.unusedVariables false
theorem U4 (c:Ag)(k:Int)(r:Aa)(h:IG c k=some r):CZ Tryz.prog 29 [.agg [tP c.Name,iP c.Kind,iP c.Rank,iP c.Known,iP c.From.Op,iP c.From.N,tP c.From.S,hX c.From.Kids,iP c.From.At,iP c.To.Op,iP c.To.N,tP c.To.S,hX c.To.Kids,iP c.To.At,iP c.When.Op,iP c.When.N,tP c.When.S,hX c.When.Kids,iP c.When.At,iP c.Houses],iP k] (.agg [iP r.Op,iP r.N,tP r.S,hX r.Kids,iP r.At]):=by
 unfold IG at h
 refine vP ⟨[0,1,2,4,6,10],[]⟩ Tryz.func29 follows fun Q hQ=>?_
 refine cD 2 [] h (fun hc1 h=>?_) fun hc1 h=>?_
 cases h
 exact rt 1 [] hQ
 refine cD 1 [] h (fun hc h=>?_) fun hc h=>?_
 cases h
 exact rt 1 [] hQ
 cases h
 exact rt 1 [] hQ
theorem RG (n0:Nat)
 (ih_ref33_left:∀ m,m<=n0->∀ (e:Aa) (n_:Int) (r:Int),BZ m e n_=some r->CZ Tryz.prog 28 [.agg [iP e.Op,iP e.N,tP e.S,hX e.Kids,iP e.At],iP n_] (iP r))
 (n:Nat) (hn:n<=n0) (e:Aa) (n_:Int) (r:Int) (h:BZ (n+1) e n_=some r):CZ Tryz.prog 28 [.agg [iP e.Op,iP e.N,tP e.S,hX e.Kids,iP e.At],iP n_] (iP r):=by
 replace h:=(BZ.eq_2 ..).symm.trans h
 refine vP ⟨[0,1,2,4,5,16],[]⟩ Tryz.func28 follows fun Q hQ=>?_
 refine mE 3 [] h (fun n_1=>⟨[(1,iP n_1),(4,iP 0)],[[iP e.Op,iP e.N,tP e.S,hX e.Kids,iP e.At]]⟩) ?_ fun y e1 hJ=>?_
 rintro n_1 h
 cases h
 exact rt 1 [] hQ
 refine lR 1 [] (A:=(Int×Int)) (fun n (n_2,k)=>CJ n e n_2 k) (fun (n_2,k)=>⟨[(1,iP n_2),(2,.ptr 0 0),(4,iP 0),(5,iP k)],[[iP e.Op,iP e.N,tP e.S,hX e.Kids,iP e.At]]⟩) ((À (n_-1)),0) hn e1 (fun _=>rfl) ?_
 rintro n ⟨n_2,k⟩ hn e1 ih
 replace e1:=(CJ.eq_2 ..).symm.trans e1
 refine mE 0 [] e1 (fun v16=>⟨[(1,iP n_2),(2,.ptr 0 0),(4,iP 0),(5,iP k),(16,bP v16)],[[iP e.Op,iP e.N,tP e.S,hX e.Kids,iP e.At]]⟩) ?_ fun y1 e2 hJ1=>?_
 rintro v16 e1
 refine cD 0 [] e1 (fun hc e1=>?_) fun hc e1=>?_
 obtain⟨x,hx,e1⟩:=Ad e1
 obtain⟨n_3,hn_3,e1⟩:=Ad e1
 exact mJ 3 [(3,fi A7 hx),(2,fk (ih_ref33_left _ hn _ _ _ hn_3))] (ih (_,_) e1)
 exact mJ 1 [] (hJ _ (oj e1))
 rcases An e2 with⟨hc1,e2⟩|⟨hc1,e2⟩
 exact mJ 1 [(3,fl A7 e.Kids),(1,fo hc1)] (hJ1 _ (oj e2))
 exact mJ 1 [(3,fl A7 e.Kids),(1,fo hc1)] (hJ1 _ (oj e2))
theorem L5:∀ n:Nat,(∀ m,m<=n->∀ (e:Aa) (n_:Int) (r:Int),BZ m e n_=some r->CZ Tryz.prog 28 [.agg [iP e.Op,iP e.N,tP e.S,hX e.Kids,iP e.At],iP n_] (iP r))
 |0=>(fun m hm e n_ r h=>by
  obtain rfl:m=0:=by omega
  exact absurd h (by simp [BZ]))
 |n+1=>by
  have ih:=L5 n
  exact fun m hm e n_ r h=>by
   cases m with
   |zero=>exact absurd h (by simp [BZ])
   |succ m=>exact RG n (ih) m (by omega) e n_ _ h
theorem U5 (n:Nat)(e:Aa)(n_:Int)(r:Int)(h:BZ n e n_=some r):CZ Tryz.prog 28 [.agg [iP e.Op,iP e.N,tP e.S,hX e.Kids,iP e.At],iP n_] (iP r) :=
 (L5 n) n (Õ _) e n_ r h
theorem Wr (n:Nat)(l:(List Ag))(n_:Int)(r:Bool)(h:JF n l n_=some r):CZ Tryz.prog 9 [hC l,iP n_] (bP r):=by
 unfold JF at h
 refine vP ⟨[0,1,4,5,6,9,17,25],[]⟩ Tryz.func9 follows fun Q hQ=>?_
 refine cD 2 [(2,fl Ak l)] h (fun hc4 h=>?_) fun hc4 h=>?_
 cases h
 exact rt 1 [] hQ
 refine mE 1 [] h (fun n_1=>⟨[(1,iP n_1),(4,bP false)],[]⟩) ?_ fun y e hJ=>?_
 rintro n_1 h
 cases h
 exact rt 1 [] hQ
 refine lF 1 [] (A:=(Int×Int)) (fun n (n_2,i)=>D8 n l n_2 i) (fun (n_2,i)=>⟨[(0,hC l),(1,iP n_2),(4,bP false),(5,iP i)],[]⟩) (n_,0) e (fun _=>rfl) ?_
 rintro n ⟨n_2,i⟩ e ih
 replace e:=(D8.eq_2 ..).symm.trans e
 refine mE 0 [] e (fun v17=>⟨[(0,hC l),(1,iP n_2),(4,bP false),(5,iP i),(17,bP v17)],[]⟩) ?_ fun y1 e1 hJ1=>?_
 rintro v17 e
 refine cD 0 [] e (fun hc2 e=>?_) fun hc2 e=>?_
 refine mE 2 [] e (fun n_3=>⟨[(0,hC l),(1,iP n_3),(4,bP false),(5,iP i)],[]⟩) ?_ fun y2 e2 hJ2=>?_
 rintro n_3 e
 exact mJ 1 [] (ih (_,_) e)
 refine lF 1 [] (A:=(Int×Int)) (fun n (n_4,k)=>Ch n l i n_4 k) (fun (n_4,k)=>⟨[(0,hC l),(1,iP n_4),(4,bP false),(5,iP i),(6,iP k)],[]⟩) (n_2,0) e2 (fun _=>rfl) ?_
 rintro n ⟨n_4,k⟩ e2 ih1
 replace e2:=(Ch.eq_2 ..).symm.trans e2
 refine mE 0 [] e2 (fun v25=>⟨[(0,hC l),(1,iP n_4),(4,bP false),(5,iP i),(6,iP k),(25,bP v25)],[]⟩) ?_ fun y3 e3 hJ3=>?_
 rintro v25 e2
 refine cD 0 [] e2 (fun hc e2=>?_) fun hc e2=>?_
 obtain⟨x,hx,e2⟩:=Ad e2
 obtain⟨p,hp,e2⟩:=Ad e2
 obtain⟨n_5,hn_5,e2⟩:=Ad e2
 exact mJ 3 [(2,fi Ak hx),(2,fk (U4 _ _ _ hp)),(1,fk (U5 _ _ _ _ hn_5))] (ih1 (_,_) e2)
 exact mJ 1 [] (hJ2 _ (oj e2))
 rcases An e3 with⟨hc1,e3⟩|⟨hc1,e3⟩
 exact mJ 1 [(2,fo hc1)] (hJ3 _ (oj e3))
 exact mJ 1 [(2,fo hc1)] (hJ3 _ (oj e3))
 exact mJ 1 [] (hJ _ (oj e))
 rcases An e1 with⟨hc3,e1⟩|⟨hc3,e1⟩
 exact mJ 1 [(2,fl Ak l),(1,fo hc3)] (hJ1 _ (oj e1))
 exact mJ 1 [(2,fl Ak l),(1,fo hc3)] (hJ1 _ (oj e1))
theorem F8 (n:Nat)(a_:(List Ag))(b:(List Ag))(offsets:Bool)(r:Bool)(h:Hs n a_ b offsets=some r):CZ Tryz.prog 19 [hC a_,hC b,bP offsets] (bP r):=by
 unfold Hs at h
 refine vP ⟨[0,1,2,6,7,8,9,10,11,12,17,21,94],[]⟩ Tryz.func19 follows fun Q hQ=>?_
 refine cD 2 [(2,fl Ak a_),(1,fl Ak b)] h (fun hc9 h=>?_) fun hc9 h=>?_
 cases h
 exact rt 1 [] hQ
 refine mI 1 [] h (fun _=>⟨[(6,bP false)],[]⟩) ?_ fun y e h hJ=>?_
 rintro _ h
 cases h
 exact rt 1 [] hQ
 refine lF 1 [] (A:=Int) (fun n k=>Ez n a_ b offsets k) (fun k=>⟨[(0,hC a_),(1,hC b),(2,bP offsets),(6,bP false),(7,iP k)],[]⟩) 0 e (fun _=>rfl) ?_
 rintro n k e ih
 replace e:=(Ez.eq_2 ..).symm.trans e
 refine cD 1 [(2,fl Ak a_)] e (fun hc8 e=>?_) fun hc8 e=>?_
 obtain⟨x,hx,e⟩:=Ad e
 obtain⟨x1,hx1,e⟩:=Ad e
 obtain⟨from_,hfrom_,e⟩:=Ad e
 obtain⟨to,hto,e⟩:=Ad e
 obtain⟨when,hwhen,e⟩:=Ad e
 refine mE 6 [(2,fi Ak hx),(5,fi Ak hx1),(8,fk (HW _ _ _ _ _ hfrom_)),(6,fk (HW _ _ _ _ _ hto)),(6,fk (HW _ _ _ _ _ hwhen))] e (fun v94=>⟨[(0,hC a_),(1,hC b),(2,bP offsets),(6,bP false),(7,iP k),(94,bP v94)],[[tP x.Name,iP x.Kind,iP x.Rank,iP x.Known,iP x.From.Op,iP x.From.N,tP x.From.S,hX x.From.Kids,iP x.From.At,iP x.To.Op,iP x.To.N,tP x.To.S,hX x.To.Kids,iP x.To.At,iP x.When.Op,iP x.When.N,tP x.When.S,hX x.When.Kids,iP x.When.At,iP x.Houses],[tP x1.Name,iP x1.Kind,iP x1.Rank,iP x1.Known,iP x1.From.Op,iP x1.From.N,tP x1.From.S,hX x1.From.Kids,iP x1.From.At,iP x1.To.Op,iP x1.To.N,tP x1.To.S,hX x1.To.Kids,iP x1.To.At,iP x1.When.Op,iP x1.When.N,tP x1.When.S,hX x1.When.Kids,iP x1.When.At,iP x1.Houses]]⟩) ?_ fun y1 e1 hJ1=>?_
 rintro v94 e
 refine cD 0 [] e (fun hc e=>?_) fun hc e=>?_
 cases e
 cases h
 exact rt 1 [] hQ
 exact mJ 1 [] (ih _ e)
 rcases An e1 with⟨hc1,e1⟩|⟨hc1,e1⟩
 exact mJ 1 [(2,fo hc1)] (hJ1 _ (oj e1))
 rcases An e1 with⟨hc2,e1⟩|⟨hc2,e1⟩
 exact mJ 1 [(2,fo hc1),(3,fo hc2)] (hJ1 _ (oj e1))
 rcases An e1 with⟨hc3,e1⟩|⟨hc3,e1⟩
 exact mJ 1 [(2,fo hc1),(3,fo hc2),(3,fo hc3)] (hJ1 _ (oj e1))
 rcases An e1 with⟨hc4,e1⟩|⟨hc4,e1⟩
 exact mJ 1 [(2,fo hc1),(3,fo hc2),(3,fo hc3),(6,fo hc4)] (hJ1 _ (oj e1))
 rcases An e1 with⟨hc5,e1⟩|⟨hc5,e1⟩
 exact mJ 1 [(2,fo hc1),(3,fo hc2),(3,fo hc3),(6,fo hc4),(6,fo hc5)] (hJ1 _ (oj e1))
 rcases An e1 with⟨hc6,e1⟩|⟨hc6,e1⟩
 exact mJ 1 [(2,fo hc1),(3,fo hc2),(3,fo hc3),(6,fo hc4),(6,fo hc5),(6,fo hc6)] (hJ1 _ (oj e1))
 rcases An e1 with⟨hc7,e1⟩|⟨hc7,e1⟩
 exact mJ 1 [(2,fo hc1),(3,fo hc2),(3,fo hc3),(6,fo hc4),(6,fo hc5),(6,fo hc6),(6,fo hc7)] (hJ1 _ (oj e1))
 exact mJ 1 [(2,fo hc1),(3,fo hc2),(3,fo hc3),(6,fo hc4),(6,fo hc5),(6,fo hc6),(6,fo hc7)] (hJ1 _ (oj e1))
 exact mJ 1 [] (hJ _ (oj e))
end Go.Proofs.YtkcfmlfkfagejaaGreatDoor
