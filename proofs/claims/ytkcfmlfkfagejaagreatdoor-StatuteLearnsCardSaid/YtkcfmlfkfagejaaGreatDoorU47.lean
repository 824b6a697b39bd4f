/-
  The walks of chapter 33: the reference: the program computes the plain functions. (Printed by lift.py.)
-/
import Derived.Test.YtkcfmlfkfagejaaGreatDoorU7
import Derived.Test.YtkcfmlfkfagejaaGreatDoorU16
import Derived.Test.YtkcfmlfkfagejaaGreatDoorU22
import Derived.Test.YtkcfmlfkfagejaaGreatDoorU46
set_option linter.unusedVariables false
set_option linter.unusedSimpArgs false
namespace Go.Proofs.YtkcfmlfkfagejaaGreatDoor
open Go.RowKit Go.Q Go.Vl Go.Sp
set_option maxRecDepth 100000
set_option linter.unusedSimpArgs false
set_option maxHeartbeats 4000000
set_option linter.unusedVariables false
theorem N9 (n0:Nat)
 (ih_ref33_left:∀ m,m<=n0->∀ (e:Ab) (n_:Int) (r:Int),BB m e n_=some r->C1 Tryz.prog 28 [.agg [iP e.Op,iP e.N,tP e.S,hX e.Kids,iP e.At],iP n_] (iP r))
 (n:Nat) (hn:n<=n0) (e:Ab) (n_:Int) (r:Int) (h:BB (n+1) e n_=some r):C1 Tryz.prog 28 [.agg [iP e.Op,iP e.N,tP e.S,hX e.Kids,iP e.At],iP n_] (iP r):=by
 replace h:=(BB.eq_2 ..).symm.trans h
 refine vP ⟨[0,1,2,4,5,16],[]⟩ Tryz.func28 follows fun Q hQ=>?_
 refine mE 3 [] h (fun n_1=>⟨[(1,iP n_1),(4,iP 0)],[[iP e.Op,iP e.N,tP e.S,hX e.Kids,iP e.At]]⟩) ?_ fun y e1 hJ=>?_
 rintro n_1 h
 cases h
 exact rt 1 [] hQ
 refine lR 1 [] (A:=(Int×Int)) (fun n (n_2,k)=>BO n e n_2 k) (fun (n_2,k)=>⟨[(1,iP n_2),(2,.ptr 0 0),(4,iP 0),(5,iP k)],[[iP e.Op,iP e.N,tP e.S,hX e.Kids,iP e.At]]⟩) ((IntKind.i64.wrap (n_-1)),0) hn e1 (fun _=>rfl) ?_
 rintro n ⟨n_2,k⟩ hn e1 ih
 replace e1:=(BO.eq_2 ..).symm.trans e1
 refine mE 0 [] e1 (fun v16=>⟨[(1,iP n_2),(2,.ptr 0 0),(4,iP 0),(5,iP k),(16,bP v16)],[[iP e.Op,iP e.N,tP e.S,hX e.Kids,iP e.At]]⟩) ?_ fun y1 e2 hJ1=>?_
 rintro v16 e1
 refine cD 0 [] e1 (fun hc e1=>?_) fun hc e1=>?_
 obtain⟨x,hx,e1⟩:=Ae e1
 obtain⟨n_3,hn_3,e1⟩:=Ae e1
 exact mJ 3 [(3,fi A3 hx),(2,fk (ih_ref33_left _ hn _ _ _ hn_3))] (ih (_,_) e1)
 exact mJ 1 [] (hJ _ (oj e1))
 rcases Ar e2 with⟨hc1,e2⟩|⟨hc1,e2⟩
 exact mJ 1 [(3,fl A3 e.Kids),(1,fo hc1)] (hJ1 _ (oj e2))
 exact mJ 1 [(3,fl A3 e.Kids),(1,fo hc1)] (hJ1 _ (oj e2))
theorem Jc:∀ n:Nat,(∀ m,m<=n->∀ (e:Ab) (n_:Int) (r:Int),BB m e n_=some r->C1 Tryz.prog 28 [.agg [iP e.Op,iP e.N,tP e.S,hX e.Kids,iP e.At],iP n_] (iP r))
 |0=>(fun m hm e n_ r h=>by
  obtain rfl:m=0:=by omega
  exact absurd h (by simp [BB]))
 |n+1=>by
  have ih:=Jc n
  exact fun m hm e n_ r h=>by
   cases m with
   |zero=>exact absurd h (by simp [BB])
   |succ m=>exact N9 n (ih) m (by omega) e n_ _ h
theorem P8 (n:Nat)(e:Ab)(n_:Int)(r:Int)(h:BB n e n_=some r):C1 Tryz.prog 28 [.agg [iP e.Op,iP e.N,tP e.S,hX e.Kids,iP e.At],iP n_] (iP r) :=
 (Jc n) n (Nat.le_refl _) e n_ r h
theorem IQ (n:Nat)(a_:(List A0))(b:(List A0))(offsets:Bool)(r:Bool)(h:Kh n a_ b offsets=some r):C1 Tryz.prog 19 [hC a_,hC b,bP offsets] (bP r):=by
 unfold Kh at h
 refine vP ⟨[0,1,2,6,7,8,9,10,11,12,17,21,94],[]⟩ Tryz.func19 follows fun Q hQ=>?_
 refine cD 2 [(2,fl Ai a_),(1,fl Ai b)] h (fun hc9 h=>?_) fun hc9 h=>?_
 cases h
 exact rt 1 [] hQ
 refine mI 1 [] h (fun _=>⟨[(6,bP false)],[]⟩) ?_ fun y e h hJ=>?_
 rintro _ h
 cases h
 exact rt 1 [] hQ
 refine lF 1 [] (A:=Int) (fun n k=>FM n a_ b offsets k) (fun k=>⟨[(0,hC a_),(1,hC b),(2,bP offsets),(6,bP false),(7,iP k)],[]⟩) 0 e (fun _=>rfl) ?_
 rintro n k e ih
 replace e:=(FM.eq_2 ..).symm.trans e
 refine cD 1 [(2,fl Ai a_)] e (fun hc8 e=>?_) fun hc8 e=>?_
 obtain⟨x,hx,e⟩:=Ae e
 obtain⟨x1,hx1,e⟩:=Ae e
 obtain⟨from_,hfrom_,e⟩:=Ae e
 obtain⟨to,hto,e⟩:=Ae e
 obtain⟨when,hwhen,e⟩:=Ae e
 refine mE 6 [(2,fi Ai hx),(5,fi Ai hx1),(8,fk (Gd _ _ _ _ _ hfrom_)),(6,fk (Gd _ _ _ _ _ hto)),(6,fk (Gd _ _ _ _ _ hwhen))] e (fun v94=>⟨[(0,hC a_),(1,hC b),(2,bP offsets),(6,bP false),(7,iP k),(94,bP v94)],[[tP x.Name,iP x.Kind,iP x.Rank,iP x.Known,iP x.From.Op,iP x.From.N,tP x.From.S,hX x.From.Kids,iP x.From.At,iP x.To.Op,iP x.To.N,tP x.To.S,hX x.To.Kids,iP x.To.At,iP x.When.Op,iP x.When.N,tP x.When.S,hX x.When.Kids,iP x.When.At,iP x.Houses],[tP x1.Name,iP x1.Kind,iP x1.Rank,iP x1.Known,iP x1.From.Op,iP x1.From.N,tP x1.From.S,hX x1.From.Kids,iP x1.From.At,iP x1.To.Op,iP x1.To.N,tP x1.To.S,hX x1.To.Kids,iP x1.To.At,iP x1.When.Op,iP x1.When.N,tP x1.When.S,hX x1.When.Kids,iP x1.When.At,iP x1.Houses]]⟩) ?_ fun y1 e1 hJ1=>?_
 rintro v94 e
 refine cD 0 [] e (fun hc e=>?_) fun hc e=>?_
 cases e
 cases h
 exact rt 1 [] hQ
 exact mJ 1 [] (ih _ e)
 rcases Ar e1 with⟨hc1,e1⟩|⟨hc1,e1⟩
 exact mJ 1 [(2,fo hc1)] (hJ1 _ (oj e1))
 rcases Ar e1 with⟨hc2,e1⟩|⟨hc2,e1⟩
 exact mJ 1 [(2,fo hc1),(3,fo hc2)] (hJ1 _ (oj e1))
 rcases Ar e1 with⟨hc3,e1⟩|⟨hc3,e1⟩
 exact mJ 1 [(2,fo hc1),(3,fo hc2),(3,fo hc3)] (hJ1 _ (oj e1))
 rcases Ar e1 with⟨hc4,e1⟩|⟨hc4,e1⟩
 exact mJ 1 [(2,fo hc1),(3,fo hc2),(3,fo hc3),(6,fo hc4)] (hJ1 _ (oj e1))
 rcases Ar e1 with⟨hc5,e1⟩|⟨hc5,e1⟩
 exact mJ 1 [(2,fo hc1),(3,fo hc2),(3,fo hc3),(6,fo hc4),(6,fo hc5)] (hJ1 _ (oj e1))
 rcases Ar e1 with⟨hc6,e1⟩|⟨hc6,e1⟩
 exact mJ 1 [(2,fo hc1),(3,fo hc2),(3,fo hc3),(6,fo hc4),(6,fo hc5),(6,fo hc6)] (hJ1 _ (oj e1))
 rcases Ar e1 with⟨hc7,e1⟩|⟨hc7,e1⟩
 exact mJ 1 [(2,fo hc1),(3,fo hc2),(3,fo hc3),(6,fo hc4),(6,fo hc5),(6,fo hc6),(6,fo hc7)] (hJ1 _ (oj e1))
 exact mJ 1 [(2,fo hc1),(3,fo hc2),(3,fo hc3),(6,fo hc4),(6,fo hc5),(6,fo hc6),(6,fo hc7)] (hJ1 _ (oj e1))
 exact mJ 1 [] (hJ _ (oj e))
theorem Mh (n:Nat)(e:Ab)(n_:Int)(r:Bool)(h:E1 n e n_=some r):C1 Tryz.prog 21 [.agg [iP e.Op,iP e.N,tP e.S,hX e.Kids,iP e.At],iP n_] (bP r):=by
 unfold E1 at h
 refine vP ⟨[0,1,2,4],[]⟩ Tryz.func21 follows fun Q hQ=>?_
 obtain⟨l,hl,h⟩:=Ae h
 cases h
 exact rt 2 [(4,fk (P8 _ _ _ _ hl))] hQ
end Go.Proofs.YtkcfmlfkfagejaaGreatDoor
