/-
  The walks of chapter 33: the comparison: the program computes the plain functions. (Printed by lift.py.)
-/
import Derived.Test.YtkcfmlfkfagejaaGreatDoorU7
import Derived.Test.YtkcfmlfkfagejaaGreatDoorU12
import Derived.Test.YtkcfmlfkfagejaaGreatDoorU25
set_option linter.unusedVariables false
set_option linter.unusedSimpArgs false
namespace Go.Proofs.YtkcfmlfkfagejaaGreatDoor
open Go.RowKit Go.Q Go.Vl Go.Sp
set_option maxRecDepth 100000
set_option linter.unusedSimpArgs false
set_option maxHeartbeats 4000000
set_option linter.unusedVariables false
theorem Ny (n0:Nat)
 (ih_ref32_SameExpr:∀ m,m<=n0->∀ (a_:Aa) (b:Aa) (offsets:Bool) (r:Bool),BJ m a_ b offsets=some r->CZ Tryz.prog 44 [.agg [iP a_.Op,iP a_.N,tP a_.S,hX a_.Kids,iP a_.At],.agg [iP b.Op,iP b.N,tP b.S,hX b.Kids,iP b.At],bP offsets] (bP r))
 (n:Nat) (hn:n<=n0) (a_:Aa) (b:Aa) (offsets:Bool) (r:Bool) (h:BJ (n+1) a_ b offsets=some r):CZ Tryz.prog 44 [.agg [iP a_.Op,iP a_.N,tP a_.S,hX a_.Kids,iP a_.At],.agg [iP b.Op,iP b.N,tP b.S,hX b.Kids,iP b.At],bP offsets] (bP r):=by
 replace h:=(BJ.eq_2 ..).symm.trans h
 refine vP ⟨[0,1,2,3,4,6,7,8,52,60,67,72,88],[]⟩ Tryz.func44 follows fun Q hQ=>?_
 refine mE 1 [] h (fun v52=>⟨[(2,bP offsets),(3,.ptr 0 0),(4,.ptr 1 0),(6,bP false),(52,bP v52)],[[iP a_.Op,iP a_.N,tP a_.S,hX a_.Kids,iP a_.At],[iP b.Op,iP b.N,tP b.S,hX b.Kids,iP b.At]]⟩) ?_ fun y e hJ=>?_
 rintro v52 h
 refine cD 0 [] h (fun hc5 h=>?_) fun hc5 h=>?_
 cases h
 exact rt 1 [] hQ
 refine mE 0 [] h (fun v60=>⟨[(2,bP offsets),(3,.ptr 0 0),(4,.ptr 1 0),(6,bP false),(60,bP v60)],[[iP a_.Op,iP a_.N,tP a_.S,hX a_.Kids,iP a_.At],[iP b.Op,iP b.N,tP b.S,hX b.Kids,iP b.At]]⟩) ?_ fun y1 e1 hJ1=>?_
 rintro v60 h
 refine cD 0 [] h (fun hc3 h=>?_) fun hc3 h=>?_
 cases h
 exact rt 1 [] hQ
 refine cD 1 [(2,fl A7 a_.Kids),(2,fl A7 b.Kids)] h (fun hc2 h=>?_) fun hc2 h=>?_
 cases h
 exact rt 1 [] hQ
 refine mI 1 [] h (fun _=>⟨[(6,bP false)],[[iP a_.Op,iP a_.N,tP a_.S,hX a_.Kids,iP a_.At],[iP b.Op,iP b.N,tP b.S,hX b.Kids,iP b.At]]⟩) ?_ fun y2 e2 h hJ2=>?_
 rintro _ h
 cases h
 exact rt 1 [] hQ
 refine lR 1 [] (A:=Int) (fun n k=>C3 n a_ b offsets k) (fun k=>⟨[(2,bP offsets),(3,.ptr 0 0),(4,.ptr 1 0),(6,bP false),(7,iP k)],[[iP a_.Op,iP a_.N,tP a_.S,hX a_.Kids,iP a_.At],[iP b.Op,iP b.N,tP b.S,hX b.Kids,iP b.At]]⟩) 0 hn e2 (fun _=>rfl) ?_
 rintro n k hn e2 ih
 replace e2:=(C3.eq_2 ..).symm.trans e2
 refine cD 1 [(3,fl A7 a_.Kids)] e2 (fun hc1 e2=>?_) fun hc1 e2=>?_
 obtain⟨x,hx,e2⟩:=Ad e2
 obtain⟨x1,hx1,e2⟩:=Ad e2
 obtain⟨same,hsame,e2⟩:=Ad e2
 refine cD 3 [(3,fi A7 hx),(4,fi A7 hx1),(2,fk (ih_ref32_SameExpr _ hn _ _ _ _ hsame))] e2 (fun hc e2=>?_) fun hc e2=>?_
 cases e2
 cases h
 exact rt 1 [] hQ
 exact mJ 1 [] (ih _ e2)
 exact mJ 1 [] (hJ2 _ (oj e2))
 rcases An e1 with⟨hc4,e1⟩|⟨hc4,e1⟩
 exact mJ 1 [(3,fo hc4)] (hJ1 _ (oj e1))
 exact mJ 1 [(3,fo hc4)] (hJ1 _ (oj e1))
 rcases An e with⟨hc6,e⟩|⟨hc6,e⟩
 exact mJ 1 [(5,fo hc6)] (hJ _ (oj e))
 rcases An e with⟨hc7,e⟩|⟨hc7,e⟩
 rcases An e with⟨hc8,e⟩|⟨hc8,e⟩
 exact mJ 1 [(5,fo hc6),(3,fo hc7),(7,fo hc8)] (hJ _ (oj e))
 rcases An e with⟨hc9,e⟩|⟨hc9,e⟩
 rcases An e with⟨hc10,e⟩|⟨hc10,e⟩
 rcases An e with⟨hc11,e⟩|⟨hc11,e⟩
 exact mJ 1 [(5,fo hc6),(3,fo hc7),(7,fo hc8),(3,fo hc9),(4,fo hc10),(7,fo hc11)] (hJ _ (oj e))
 rcases An e with⟨hc12,e⟩|⟨hc12,e⟩
 exact mJ 1 [(5,fo hc6),(3,fo hc7),(7,fo hc8),(3,fo hc9),(4,fo hc10),(7,fo hc11),(1,fo hc12)] (hJ _ (oj e))
 exact mJ 1 [(5,fo hc6),(3,fo hc7),(7,fo hc8),(3,fo hc9),(4,fo hc10),(7,fo hc11),(1,fo hc12)] (hJ _ (oj e))
 rcases An e with⟨hc13,e⟩|⟨hc13,e⟩
 exact mJ 1 [(5,fo hc6),(3,fo hc7),(7,fo hc8),(3,fo hc9),(4,fo hc10),(9,fo hc13)] (hJ _ (oj e))
 exact mJ 1 [(5,fo hc6),(3,fo hc7),(7,fo hc8),(3,fo hc9),(4,fo hc10),(9,fo hc13)] (hJ _ (oj e))
 rcases An e with⟨hc14,e⟩|⟨hc14,e⟩
 exact mJ 1 [(5,fo hc6),(3,fo hc7),(7,fo hc8),(3,fo hc9),(14,fo hc14)] (hJ _ (oj e))
 exact mJ 1 [(5,fo hc6),(3,fo hc7),(7,fo hc8),(3,fo hc9),(14,fo hc14)] (hJ _ (oj e))
 rcases An e with⟨hc15,e⟩|⟨hc15,e⟩
 rcases An e with⟨hc16,e⟩|⟨hc16,e⟩
 rcases An e with⟨hc17,e⟩|⟨hc17,e⟩
 exact mJ 1 [(5,fo hc6),(3,fo hc7),(11,fo hc15),(4,fo hc16),(7,fo hc17)] (hJ _ (oj e))
 rcases An e with⟨hc18,e⟩|⟨hc18,e⟩
 exact mJ 1 [(5,fo hc6),(3,fo hc7),(11,fo hc15),(4,fo hc16),(7,fo hc17),(1,fo hc18)] (hJ _ (oj e))
 exact mJ 1 [(5,fo hc6),(3,fo hc7),(11,fo hc15),(4,fo hc16),(7,fo hc17),(1,fo hc18)] (hJ _ (oj e))
 rcases An e with⟨hc19,e⟩|⟨hc19,e⟩
 exact mJ 1 [(5,fo hc6),(3,fo hc7),(11,fo hc15),(4,fo hc16),(9,fo hc19)] (hJ _ (oj e))
 exact mJ 1 [(5,fo hc6),(3,fo hc7),(11,fo hc15),(4,fo hc16),(9,fo hc19)] (hJ _ (oj e))
 rcases An e with⟨hc20,e⟩|⟨hc20,e⟩
 exact mJ 1 [(5,fo hc6),(3,fo hc7),(11,fo hc15),(14,fo hc20)] (hJ _ (oj e))
 exact mJ 1 [(5,fo hc6),(3,fo hc7),(11,fo hc15),(14,fo hc20)] (hJ _ (oj e))
theorem ID:∀ n:Nat,(∀ m,m<=n->∀ (a_:Aa) (b:Aa) (offsets:Bool) (r:Bool),BJ m a_ b offsets=some r->CZ Tryz.prog 44 [.agg [iP a_.Op,iP a_.N,tP a_.S,hX a_.Kids,iP a_.At],.agg [iP b.Op,iP b.N,tP b.S,hX b.Kids,iP b.At],bP offsets] (bP r))
 |0=>(fun m hm a_ b offsets r h=>by
  obtain rfl:m=0:=by omega
  exact absurd h (by simp [BJ]))
 |n+1=>by
  have ih:=ID n
  exact fun m hm a_ b offsets r h=>by
   cases m with
   |zero=>exact absurd h (by simp [BJ])
   |succ m=>exact Ny n (ih) m (by omega) a_ b offsets _ h
theorem HW (n:Nat)(a_:Aa)(b:Aa)(offsets:Bool)(r:Bool)(h:BJ n a_ b offsets=some r):CZ Tryz.prog 44 [.agg [iP a_.Op,iP a_.N,tP a_.S,hX a_.Kids,iP a_.At],.agg [iP b.Op,iP b.N,tP b.S,hX b.Kids,iP b.At],bP offsets] (bP r) :=
 (ID n) n (Õ _) a_ b offsets r h
end Go.Proofs.YtkcfmlfkfagejaaGreatDoor
