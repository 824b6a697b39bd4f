/-
  The walks of chapter 33: the reference: the program computes the plain functions. (Printed by lift.py.)
-/
import Derived.Test.YtkcfmlfkfagejaaGreatDoorU7
import Derived.Test.YtkcfmlfkfagejaaGreatDoorU16
import Derived.Test.YtkcfmlfkfagejaaGreatDoorU25
import Derived.Test.YtkcfmlfkfagejaaGreatDoorU44
set_option linter.unusedVariables false
set_option linter.unusedSimpArgs false
namespace Go.Proofs.YtkcfmlfkfagejaaGreatDoor
open Go.RowKit Go.Q Go.Vl Go.Sp
set_option maxRecDepth 100000
set_option linter.unusedSimpArgs false
set_option maxHeartbeats 4000000
set_option linter.unusedVariables false
theorem JA (n:Nat)(a_:(List Ao))(b:(List Ao))(offsets:Bool)(r:Bool)(h:KU n a_ b offsets=some r):Dr Tryz.prog 19 [hC a_,hC b,bP offsets] (bP r):=by
 unfold KU at h
 refine vP ⟨[0,1,2,6,7,8,9,10,11,12,17,21,94],[]⟩ Tryz.func19 follows fun Q hQ=>?_
 refine cD 2 [(2,fl Ak a_),(1,fl Ak b)] h (fun hc9 h=>?_) fun hc9 h=>?_
 cases h
 exact rt 1 [] hQ
 refine mI 1 [] h (fun _=>⟨[(6,bP false)],[]⟩) ?_ fun y e h hJ=>?_
 rintro _ h
 cases h
 exact rt 1 [] hQ
 refine lF 1 [] (A:=Int) (fun n k=>GG n a_ b offsets k) (fun k=>⟨[(0,hC a_),(1,hC b),(2,bP offsets),(6,bP false),(7,iP k)],[]⟩) 0 e (fun _=>rfl) ?_
 rintro n k e ih
 replace e:=(GG.eq_2 ..).symm.trans e
 refine cD 1 [(2,fl Ak a_)] e (fun hc8 e=>?_) fun hc8 e=>?_
 obtain⟨x,hx,e⟩:=Ad e
 obtain⟨x1,hx1,e⟩:=Ad e
 obtain⟨from_,hfrom_,e⟩:=Ad e
 obtain⟨to,hto,e⟩:=Ad e
 obtain⟨when,hwhen,e⟩:=Ad e
 refine mE 6 [(2,fi Ak hx),(5,fi Ak hx1),(8,fk (GZ _ _ _ _ _ hfrom_)),(6,fk (GZ _ _ _ _ _ hto)),(6,fk (GZ _ _ _ _ _ hwhen))] e (fun v94=>⟨[(0,hC a_),(1,hC b),(2,bP offsets),(6,bP false),(7,iP k),(94,bP v94)],[[tP x.Name,iP x.Kind,iP x.Rank,iP x.Known,iP x.From.Op,iP x.From.N,tP x.From.S,hX x.From.Kids,iP x.From.At,iP x.To.Op,iP x.To.N,tP x.To.S,hX x.To.Kids,iP x.To.At,iP x.When.Op,iP x.When.N,tP x.When.S,hX x.When.Kids,iP x.When.At,iP x.Houses],[tP x1.Name,iP x1.Kind,iP x1.Rank,iP x1.Known,iP x1.From.Op,iP x1.From.N,tP x1.From.S,hX x1.From.Kids,iP x1.From.At,iP x1.To.Op,iP x1.To.N,tP x1.To.S,hX x1.To.Kids,iP x1.To.At,iP x1.When.Op,iP x1.When.N,tP x1.When.S,hX x1.When.Kids,iP x1.When.At,iP x1.Houses]]⟩) ?_ fun y1 e1 hJ1=>?_
 rintro v94 e
 refine cD 0 [] e (fun hc e=>?_) fun hc e=>?_
 cases e
 cases h
 exact rt 1 [] hQ
 exact mJ 1 [] (ih _ e)
 rcases Ai e1 with⟨hc1,e1⟩|⟨hc1,e1⟩
 exact mJ 1 [(2,fo hc1)] (hJ1 _ (oj e1))
 rcases Ai e1 with⟨hc2,e1⟩|⟨hc2,e1⟩
 exact mJ 1 [(2,fo hc1),(3,fo hc2)] (hJ1 _ (oj e1))
 rcases Ai e1 with⟨hc3,e1⟩|⟨hc3,e1⟩
 exact mJ 1 [(2,fo hc1),(3,fo hc2),(3,fo hc3)] (hJ1 _ (oj e1))
 rcases Ai e1 with⟨hc4,e1⟩|⟨hc4,e1⟩
 exact mJ 1 [(2,fo hc1),(3,fo hc2),(3,fo hc3),(6,fo hc4)] (hJ1 _ (oj e1))
 rcases Ai e1 with⟨hc5,e1⟩|⟨hc5,e1⟩
 exact mJ 1 [(2,fo hc1),(3,fo hc2),(3,fo hc3),(6,fo hc4),(6,fo hc5)] (hJ1 _ (oj e1))
 rcases Ai e1 with⟨hc6,e1⟩|⟨hc6,e1⟩
 exact mJ 1 [(2,fo hc1),(3,fo hc2),(3,fo hc3),(6,fo hc4),(6,fo hc5),(6,fo hc6)] (hJ1 _ (oj e1))
 rcases Ai e1 with⟨hc7,e1⟩|⟨hc7,e1⟩
 exact mJ 1 [(2,fo hc1),(3,fo hc2),(3,fo hc3),(6,fo hc4),(6,fo hc5),(6,fo hc6),(6,fo hc7)] (hJ1 _ (oj e1))
 exact mJ 1 [(2,fo hc1),(3,fo hc2),(3,fo hc3),(6,fo hc4),(6,fo hc5),(6,fo hc6),(6,fo hc7)] (hJ1 _ (oj e1))
 exact mJ 1 [] (hJ _ (oj e))
end Go.Proofs.YtkcfmlfkfagejaaGreatDoor
