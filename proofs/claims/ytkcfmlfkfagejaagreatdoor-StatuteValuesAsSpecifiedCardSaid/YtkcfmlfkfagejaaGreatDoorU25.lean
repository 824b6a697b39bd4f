/-
  The walks of chapter 33: find: the program computes the plain functions. (Printed by lift.py.) The walks of chapter 33: value: the program computes the plain functions. (Printed by lift.py.) The walks of find and value, for callers: in every order of the table.
-/
import Derived.Test.YtkcfmlfkfagejaaGreatDoorU7
import Derived.Test.YtkcfmlfkfagejaaGreatDoorU12
import Derived.Test.YtkcfmlfkfagejaaGreatDoorU15
import Derived.Test.YtkcfmlfkfagejaaGreatDoorU22
import Derived.Test.YtkcfmlfkfagejaaGreatDoorU23
import Derived.Test.YtkcfmlfkfagejaaGreatDoorU24
set_option linter.unusedVariables false
set_option linter.unusedSimpArgs false
namespace Go.Proofs.YtkcfmlfkfagejaaGreatDoor
open Go.RowKit Go.Q Go.Vl Go.Sp
set_option maxRecDepth 100000
set_option linter.unusedSimpArgs false
set_option maxHeartbeats 4000000
set_option linter.unusedVariables false
theorem LW (op:Int)(r:Int)(h:Ea op=some r):Cd Tryz.prog 57 [iP op] (iP r):=by
 unfold Ea at h
 refine vP ⟨[0,2,3,4,8,11,13],[]⟩ Tryz.func57 follows fun Q hQ=>?_
 refine mE 4 [] h (fun v4=>⟨[(2,iP 0),(3,iP op),(4,bP v4)],[]⟩) ?_ fun y e hJ=>?_
 rintro v4 h
 refine cD 0 [] h (fun hc4 h=>?_) fun hc4 h=>?_
 cases h
 exact rt 1 [] hQ
 refine mE 1 [] h (fun v8=>⟨[(2,iP 0),(3,iP op),(8,bP v8)],[]⟩) ?_ fun y1 e1 hJ1=>?_
 rintro v8 h
 refine cD 0 [] h (fun hc2 h=>?_) fun hc2 h=>?_
 cases h
 exact rt 1 [] hQ
 refine cD 1 [] h (fun hc1 h=>?_) fun hc1 h=>?_
 cases h
 exact rt 1 [] hQ
 refine cD 1 [] h (fun hc h=>?_) fun hc h=>?_
 cases h
 exact rt 1 [] hQ
 cases h
 exact rt 1 [] hQ
 refine cD 0 [] e1 (fun hc3 e1=>?_) fun hc3 e1=>?_
 exact mJ 0 [] (hJ1 _ (oj e1))
 exact mJ 1 [] (hJ1 _ (oj e1))
 refine cD 0 [] e (fun hc6 e=>?_) fun hc6 e=>?_
 exact mJ 0 [] (hJ _ (oj e))
 refine cD 1 [] e (fun hc5 e=>?_) fun hc5 e=>?_
 exact mJ 0 [] (hJ _ (oj e))
 exact mJ 1 [] (hJ _ (oj e))
theorem Bm (s:(List Ab))(s1:(List (ByteArray×Int)))(e:Int)(e1:Int)(e2:ByteArray)(e3:(List Aa))(e4:Int)(o_:Int)(o_1:ByteArray)(o_2:(List Int))(o_3:Int)(o_4:Do)(p:Int)(p1:Int)(x:Int)(r:(Int×Ab×Av))(h:AQ s s1 e e1 e2 e3 e4 o_ o_1 o_2 o_3 o_4 p p1 x=some r):Ll Tryz.prog 56 [iP x,.ptr 1 0] [[hO s,.vmp (Mu s1)],[iP e,iP e1,tP e2,hX e3,iP e4],[iP o_,tP o_1,oI o_2,iP o_3,.fno (KB o_4) (JA o_4) (JK o_4)],[iP p,iP p1]] (.ret (.tup [iP r.1,.agg [iP r.2.1.op,tP r.2.1.name,hI r.2.1.args,iP r.2.1.kind,.fno (KB r.2.1.do_) (JA r.2.1.do_) (JK r.2.1.do_)],.agg [iP r.2.2.At,iP r.2.2.E]])) [[hO s,.vmp (Mu s1)],[iP e,iP e1,tP e2,hX e3,iP e4],[iP o_,tP o_1,oI o_2,iP o_3,.fno (KB o_4) (JA o_4) (JK o_4)],[iP p,iP p1]]:=by
 unfold AQ at h
 refine vS ⟨[0,1,3,4,5],[(1,[9999,1,4,0,1,2,3,4,5,6,7])]⟩ Tryz.func56 follows fun Q hQ=>?_
 cases h
 exact rt 2 [] hQ
theorem MG (n:Nat)(s1:(List Int))(s2:(List Int))(r:Bool)(h:CP n s1 s2=some r):Cd Tryz.prog 58 [hI s1,hI s2] (bP r):=by
 unfold CP at h
 refine vP ⟨[0,1,4,5,10,12,13,14,24],[]⟩ Tryz.func58 follows fun Q hQ=>?_
 refine cD 2 [(2,fl Aw s1),(1,fl Aw s2)] h (fun hc2 h=>?_) fun hc2 h=>?_
 cases h
 exact rt 1 [] hQ
 refine mI 1 [(1,fl Aw s1)] h (fun _=>⟨[(4,bP false)],[]⟩) ?_ fun y e h hJ=>?_
 rintro _ h
 cases h
 exact rt 1 [] hQ
 refine lF 1 [] (A:=Int) (fun n v13=>By n s1 s2 v13) (fun v13=>⟨[(0,hI s1),(1,hI s2),(4,bP false),(12,iP (s1.length:Int)),(13,iP v13)],[]⟩) 0 e (fun _=>rfl) ?_
 rintro n v13 e ih
 replace e:=(By.eq_2 ..).symm.trans e
 refine cD 1 [] e (fun hc1 e=>?_) fun hc1 e=>?_
 obtain⟨x,hx,e⟩:=Ac e
 obtain⟨x1,hx1,e⟩:=Ac e
 refine cD 3 [(4,fi Aw hx),(3,fi Aw hx1)] e (fun hc e=>?_) fun hc e=>?_
 cases e
 cases h
 exact rt 1 [] hQ
 exact mJ 1 [] (ih _ e)
 exact mJ 1 [] (hJ _ (oj e))
theorem Jh (n0:Nat)
 (ih_statute_solver_find:∀ m,m<=n0->∀ (s:AR) (e:Aa) (r:(Int×Ab×Av)),A5 m s e=some r->Cd Tryz.prog 34 [.agg [hO s.ops,.vmp (Mu s.names)],.agg [iP e.Op,iP e.N,tP e.S,hX e.Kids,iP e.At]] (.tup [iP r.1,.agg [iP r.2.1.op,tP r.2.1.name,hI r.2.1.args,iP r.2.1.kind,.fno (KB r.2.1.do_) (JA r.2.1.do_) (JK r.2.1.do_)],.agg [iP r.2.2.At,iP r.2.2.E]]))
 (n:Nat) (hn:n<=n0) (s:AR) (e:Aa) (r:(Int×Ab×Av)) (h:A5 (n+1) s e=some r):Cd Tryz.prog 34 [.agg [hO s.ops,.vmp (Mu s.names)],.agg [iP e.Op,iP e.N,tP e.S,hX e.Kids,iP e.At]] (.tup [iP r.1,.agg [iP r.2.1.op,tP r.2.1.name,hI r.2.1.args,iP r.2.1.kind,.fno (KB r.2.1.do_) (JA r.2.1.do_) (JK r.2.1.do_)],.agg [iP r.2.2.At,iP r.2.2.E]]):=by
 replace h:=(A5.eq_2 ..).symm.trans h
 refine vP ⟨[0,1,2,3,4,5,6,7,8,9,11,12,14,15,16,17,18,20,43,50,51,52,53,65,74,75,84,92,99,109,119,120,121,122,141,154,160,173],[(11,[9999,1,2,0,1,2,3,4]),(18,[9999,1,2,0,1,2,3,4]),(24,[9999,1,2,0,1,2,3,4,5]),(31,[9999,0,0,1,2,3,4,5,6,7,8,9,10]),(33,[9999,1,2,0,1,2,3,4,5,6])]⟩ Tryz.func34 follows fun Q hQ=>?_
 obtain⟨n_,hn_,h⟩:=Ac h
 refine mE 3 [(9,fk (LW _ _ hn_))] h (fun v43=>⟨[(2,.ptr 0 0),(3,.ptr 1 0),(4,iP 0),(5,.ptr 2 0),(6,.ptr 3 0),(7,.fn 56 [.ptr 1 0]),(43,bP v43)],[[hO s.ops,.vmp (Mu s.names)],[iP e.Op,iP e.N,tP e.S,hX e.Kids,iP e.At],[iP 0,tP ⟨#[]⟩,.sl [] .own,iP 0,.fno (KB Do.nil) (JA Do.nil) (JK Do.nil)],[iP 0,iP 0]]⟩) ?_ fun y e1 hJ=>?_
 rintro v43 h
 refine cD 0 [] h (fun hc18 h=>?_) fun hc18 h=>?_
 obtain⟨f,hf,h⟩:=Ac h
 cases h
 exact rt 1 [(1,fs (Bm _ _ _ _ _ _ _ _ _ _ _ _ _ _ _ _ hf))] hQ
 refine mI 2 [(3,fl A2 e.Kids)] h (fun types=>⟨[(2,.ptr 0 0),(3,.ptr 1 0),(4,iP 0),(5,.ptr 2 0),(6,.ptr 3 0),(7,.fn 56 [.ptr 1 0]),(9,oI types)],[[hO s.ops,.vmp (Mu s.names)],[iP e.Op,iP e.N,tP e.S,hX e.Kids,iP e.At],[iP 0,tP ⟨#[]⟩,.sl [] .own,iP 0,.fno (KB Do.nil) (JA Do.nil) (JK Do.nil)],[iP 0,iP 0]]⟩) ?_ fun y1 e2 h hJ1=>?_
 rintro types h
 refine cD 3 [] h (fun hc15 h=>?_) fun hc15 h=>?_
 refine mE 0 [] h (fun v84=>⟨[(2,.ptr 0 0),(3,.ptr 1 0),(4,iP 0),(5,.ptr 2 0),(6,.ptr 3 0),(7,.fn 56 [.ptr 1 0]),(9,oI types),(84,bP v84)],[[hO s.ops,.vmp (Mu s.names)],[iP e.Op,iP e.N,tP e.S,hX e.Kids,iP e.At],[iP 0,tP ⟨#[]⟩,.sl [] .own,iP 0,.fno (KB Do.nil) (JA Do.nil) (JK Do.nil)],[iP 0,iP 0]]⟩) ?_ fun y2 e3 hJ2=>?_
 rintro v84 h
 refine cD 0 [] h (fun hc h=>?_) fun hc h=>?_
 obtain⟨f1,hf1,h⟩:=Ac h
 cases h
 exact rt 1 [(1,fs (Bm _ _ _ _ _ _ _ _ _ _ _ _ _ _ _ _ hf1))] hQ
 cases h
 exact rt 1 [] hQ
 rcases Ak e3 with⟨hc1,e3⟩|⟨hc1,e3⟩
 exact mJ 1 [(3,fo hc1)] (hJ2 _ (oj e3))
 exact mJ 1 [(3,fo hc1)] (hJ2 _ (oj e3))
 refine cD 1 [] h (fun hc14 h=>?_) fun hc14 h=>?_
 obtain⟨f2,hf2,h⟩:=Ac h
 cases h
 exact rt 1 [(1,fs (Bm _ _ _ _ _ _ _ _ _ _ _ _ _ _ _ _ hf2))] hQ
 refine cD 1 [] h (fun hc13 h=>?_) fun hc13 h=>?_
 refine cD 2 [(4,fLS s.names e.S)] h (fun hc2 h=>?_) fun hc2 h=>?_
 cases h
 exact rt 1 [] hQ
 obtain⟨f3,hf3,h⟩:=Ac h
 cases h
 exact rt 1 [(1,fs (Bm _ _ _ _ _ _ _ _ _ _ _ _ _ _ _ _ hf3))] hQ
 refine mI 2 [(4,fl GY s.ops)] h (fun (known,fits)=>⟨[(3,.ptr 1 0),(4,iP 0),(5,.ptr 2 0),(6,.ptr 3 0),(7,.fn 56 [.ptr 1 0]),(17,bP known),(18,bP fits)],[[hO s.ops,.vmp (Mu s.names)],[iP e.Op,iP e.N,tP e.S,hX e.Kids,iP e.At],[iP 0,tP ⟨#[]⟩,.sl [] .own,iP 0,.fno (KB Do.nil) (JA Do.nil) (JK Do.nil)],[iP 0,iP 0]]⟩) ?_ fun y3 e4 h hJ3=>?_
 rintro⟨known,fits⟩ h
 refine mE 1 [] h (fun v160=>⟨[(3,.ptr 1 0),(4,iP 0),(5,.ptr 2 0),(6,.ptr 3 0),(7,.fn 56 [.ptr 1 0]),(18,bP fits),(160,bP v160)],[[hO s.ops,.vmp (Mu s.names)],[iP e.Op,iP e.N,tP e.S,hX e.Kids,iP e.At],[iP 0,tP ⟨#[]⟩,.sl [] .own,iP 0,.fno (KB Do.nil) (JA Do.nil) (JK Do.nil)],[iP 0,iP 0]]⟩) ?_ fun y4 e5 hJ4=>?_
 rintro v160 h
 refine cD 0 [] h (fun hc5 h=>?_) fun hc5 h=>?_
 obtain⟨f4,hf4,h⟩:=Ac h
 cases h
 exact rt 1 [(1,fs (Bm _ _ _ _ _ _ _ _ _ _ _ _ _ _ _ _ hf4))] hQ
 refine mE 0 [] h (fun v173=>⟨[(4,iP 0),(5,.ptr 2 0),(6,.ptr 3 0),(7,.fn 56 [.ptr 1 0]),(173,bP v173)],[[hO s.ops,.vmp (Mu s.names)],[iP e.Op,iP e.N,tP e.S,hX e.Kids,iP e.At],[iP 0,tP ⟨#[]⟩,.sl [] .own,iP 0,.fno (KB Do.nil) (JA Do.nil) (JK Do.nil)],[iP 0,iP 0]]⟩) ?_ fun y5 e6 hJ5=>?_
 rintro v173 h
 refine cD 0 [] h (fun hc3 h=>?_) fun hc3 h=>?_
 obtain⟨f5,hf5,h⟩:=Ac h
 cases h
 exact rt 1 [(1,fs (Bm _ _ _ _ _ _ _ _ _ _ _ _ _ _ _ _ hf5))] hQ
 obtain⟨f6,hf6,h⟩:=Ac h
 cases h
 exact rt 1 [(1,fs (Bm _ _ _ _ _ _ _ _ _ _ _ _ _ _ _ _ hf6))] hQ
 rcases Ak e6 with⟨hc4,e6⟩|⟨hc4,e6⟩
 exact mJ 1 [(3,fo hc4)] (hJ5 _ (oj e6))
 exact mJ 1 [(3,fo hc4)] (hJ5 _ (oj e6))
 rcases Ak e5 with⟨hc6,e5⟩|⟨hc6,e5⟩
 exact mJ 1 [(3,fo hc6)] (hJ4 _ (oj e5))
 exact mJ 1 [(3,fo hc6)] (hJ4 _ (oj e5))
 refine lR 1 [] (A:=(Bool×Bool×Int)) (fun n (known1,fits1,v121)=>AJ n s e types known1 fits1 v121) (fun (known1,fits1,v121)=>⟨[(3,.ptr 1 0),(4,iP 0),(5,.ptr 2 0),(6,.ptr 3 0),(7,.fn 56 [.ptr 1 0]),(9,oI types),(17,bP known1),(18,bP fits1),(119,hO s.ops),(120,iP (s.ops.length:Int)),(121,iP v121)],[[hO s.ops,.vmp (Mu s.names)],[iP e.Op,iP e.N,tP e.S,hX e.Kids,iP e.At],[iP 0,tP ⟨#[]⟩,.sl [] .own,iP 0,.fno (KB Do.nil) (JA Do.nil) (JK Do.nil)],[iP 0,iP 0]]⟩) (false,false,0) hn e4 (fun _=>rfl) ?_
 rintro n ⟨known1,fits1,v121⟩ hn e4 ih
 replace e4:=(AJ.eq_2 ..).symm.trans e4
 refine cD 1 [] e4 (fun hc12 e4=>?_) fun hc12 e4=>?_
 obtain⟨x,hx,e4⟩:=Ac e4
 refine mE 2 [(0,fi GY hx)] e4 (fun v141=>⟨[(3,.ptr 1 0),(4,iP 0),(5,.ptr 2 0),(6,.ptr 3 0),(7,.fn 56 [.ptr 1 0]),(9,oI types),(17,bP known1),(18,bP fits1),(20,.ptr 4 0),(119,hO s.ops),(120,iP (s.ops.length:Int)),(121,iP v121),(141,bP v141)],[[hO s.ops,.vmp (Mu s.names)],[iP e.Op,iP e.N,tP e.S,hX e.Kids,iP e.At],[iP 0,tP ⟨#[]⟩,.sl [] .own,iP 0,.fno (KB Do.nil) (JA Do.nil) (JK Do.nil)],[iP 0,iP 0],[iP x.op,tP x.name,hI x.args,iP x.kind,.fno (KB x.do_) (JA x.do_) (JK x.do_)]]⟩) ?_ fun y6 e7 hJ6=>?_
 rintro v141 e4
 refine cD 0 [] e4 (fun hc9 e4=>?_) fun hc9 e4=>?_
 exact mJ 2 [] (ih (_,_,_) e4)
 refine mE 0 [] e4 (fun fits2=>⟨[(3,.ptr 1 0),(4,iP 0),(5,.ptr 2 0),(6,.ptr 3 0),(7,.fn 56 [.ptr 1 0]),(9,oI types),(17,bP true),(18,bP fits2),(20,.ptr 4 0),(119,hO s.ops),(120,iP (s.ops.length:Int)),(121,iP v121)],[[hO s.ops,.vmp (Mu s.names)],[iP e.Op,iP e.N,tP e.S,hX e.Kids,iP e.At],[iP 0,tP ⟨#[]⟩,.sl [] .own,iP 0,.fno (KB Do.nil) (JA Do.nil) (JK Do.nil)],[iP 0,iP 0],[iP x.op,tP x.name,hI x.args,iP x.kind,.fno (KB x.do_) (JA x.do_) (JK x.do_)]]⟩) ?_ fun y7 e8 hJ7=>?_
 rintro fits2 e4
 obtain⟨e9,he9,e4⟩:=Ac e4
 refine cD 1 [(3,fk (MG _ _ _ _ he9))] e4 (fun hc7 e4=>?_) fun hc7 e4=>?_
 cases e4
 cases h
 exact rt 1 [] hQ
 exact mJ 1 [] (ih (_,_,_) e4)
 rcases Ak e8 with⟨hc8,e8⟩|⟨hc8,e8⟩
 exact mJ 1 [(1,fo hc8)] (hJ7 _ (oj e8))
 exact mJ 1 [(1,fo hc8),(2,fl Aw x.args),(1,fl Aw types)] (hJ7 _ (oj e8))
 rcases Ak e7 with⟨hc10,e7⟩|⟨hc10,e7⟩
 exact mJ 1 [(5,fo hc10)] (hJ6 _ (oj e7))
 rcases Ak e7 with⟨hc11,e7⟩|⟨hc11,e7⟩
 exact mJ 1 [(5,fo hc10),(3,fo hc11)] (hJ6 _ (oj e7))
 exact mJ 1 [(5,fo hc10),(3,fo hc11)] (hJ6 _ (oj e7))
 exact mJ 1 [] (hJ3 _ (oj e4))
 refine lR 1 [] (A:=((List Int)×Int)) (fun n (types1,v52)=>Be n e s types1 v52) (fun (types1,v52)=>⟨[(2,.ptr 0 0),(3,.ptr 1 0),(4,iP 0),(5,.ptr 2 0),(6,.ptr 3 0),(7,.fn 56 [.ptr 1 0]),(9,oI types1),(50,hX e.Kids),(51,iP (e.Kids.length:Int)),(52,iP v52)],[[hO s.ops,.vmp (Mu s.names)],[iP e.Op,iP e.N,tP e.S,hX e.Kids,iP e.At],[iP 0,tP ⟨#[]⟩,.sl [] .own,iP 0,.fno (KB Do.nil) (JA Do.nil) (JK Do.nil)],[iP 0,iP 0]]⟩) ([],0) hn e2 (fun _=>rfl) ?_
 rintro n ⟨types1,v52⟩ hn e2 ih1
 replace e2:=(Be.eq_2 ..).symm.trans e2
 refine cD 1 [] e2 (fun hc17 e2=>?_) fun hc17 e2=>?_
 obtain⟨x1,hx1,e2⟩:=Ac e2
 obtain⟨f7,hf7,e2⟩:=Ac e2
 refine cD 4 [(0,fi A2 hx1),(5,fk (ih_statute_solver_find _ hn _ _ _ hf7))] e2 (fun hc16 e2=>?_) fun hc16 e2=>?_
 cases e2
 cases h
 exact rt 1 [] hQ
 obtain⟨l,hl,e2⟩:=Ac e2
 obtain⟨l1,hl1,e2⟩:=Ac e2
 exact mJ 2 [(2,fB Aw hl),(0,fa Aw hl1)] (ih1 (_,_) e2)
 exact mJ 1 [] (hJ1 _ (oj e2))
 rcases Ak e1 with⟨hc19,e1⟩|⟨hc19,e1⟩
 exact mJ 1 [(3,fo hc19)] (hJ _ (oj e1))
 rcases Ak e1 with⟨hc20,e1⟩|⟨hc20,e1⟩
 exact mJ 1 [(3,fo hc19),(4,fo hc20)] (hJ _ (oj e1))
 rcases Ak e1 with⟨hc21,e1⟩|⟨hc21,e1⟩
 exact mJ 1 [(3,fo hc19),(4,fo hc20),(2,fo hc21),(2,fl A2 e.Kids)] (hJ _ (oj e1))
 exact mJ 1 [(3,fo hc19),(4,fo hc20),(2,fo hc21)] (hJ _ (oj e1))
theorem FN:∀ n:Nat,(∀ m,m<=n->∀ (s:AR) (e:Aa) (r:(Int×Ab×Av)),A5 m s e=some r->Cd Tryz.prog 34 [.agg [hO s.ops,.vmp (Mu s.names)],.agg [iP e.Op,iP e.N,tP e.S,hX e.Kids,iP e.At]] (.tup [iP r.1,.agg [iP r.2.1.op,tP r.2.1.name,hI r.2.1.args,iP r.2.1.kind,.fno (KB r.2.1.do_) (JA r.2.1.do_) (JK r.2.1.do_)],.agg [iP r.2.2.At,iP r.2.2.E]]))
 |0=>(fun m hm s e r h=>by
  obtain rfl:m=0:=by omega
  exact absurd h (by simp [A5]))
 |n+1=>by
  have ih:=FN n
  exact fun m hm s e r h=>by
   cases m with
   |zero=>exact absurd h (by simp [A5])
   |succ m=>exact Jh n (ih) m (by omega) s e _ h
theorem GS (n:Nat)(s:AR)(e:Aa)(r:(Int×Ab×Av))(h:A5 n s e=some r):Cd Tryz.prog 34 [.agg [hO s.ops,.vmp (Mu s.names)],.agg [iP e.Op,iP e.N,tP e.S,hX e.Kids,iP e.At]] (.tup [iP r.1,.agg [iP r.2.1.op,tP r.2.1.name,hI r.2.1.args,iP r.2.1.kind,.fno (KB r.2.1.do_) (JA r.2.1.do_) (JK r.2.1.do_)],.agg [iP r.2.2.At,iP r.2.2.E]]) :=
 (FN n) n (Nat.le_refl _) s e r h
end Go.Proofs.YtkcfmlfkfagejaaGreatDoor
namespace Go.Proofs.YtkcfmlfkfagejaaGreatDoor
open Go.RowKit Go.Q Go.Vl Go.Sp
set_option maxRecDepth 100000
set_option linter.unusedSimpArgs false
set_option maxHeartbeats 4000000
set_option linter.unusedVariables false
theorem XI (n:Nat)(d:Do)(m:Ag)(x:List Int)(r:Int)(h:FI n d m x=some r):Cd Tryz.prog (JA d) ([.agg [hZ m.d.Facts,iP m.d.Stored,iP m.d.Owner,iP m.known],hI x]++JK d) (iP r):=by
 unfold FI at h
 split at h
 . exact JW m x r h
 . exact JV m x r h
 . exact JU m x r h
 . exact JT m x r h
 . exact JS m x r h
 . exact JR m x r h
 . exact JQ m x r h
 . exact JP m x r h
 . exact JO m x r h
 . exact Ju m x r h
 . exact Jt m x r h
 . exact Js m x r h
 . exact Jk m x r h
 . exact Jj m x r h
 . exact Ji m x r h
 . exact Jr n _ m x r h
 . exact I4 m x r h
 . exact I3 m x r h
 . exact I2 m x r h
 . exact I1 m x r h
 . exact I0 m x r h
 . exact HE m x r h
 . cases h
theorem Wl {n:Nat}{d:Do}{m:Ag}{x:List Int}{r:Int}(h:FI n d m x=some r):BX Tryz.prog (JA d)=true:=by
 unfold FI at h
 split at h
 . exact (by kernel_rfl)
 . exact (by kernel_rfl)
 . exact (by kernel_rfl)
 . exact (by kernel_rfl)
 . exact (by kernel_rfl)
 . exact (by kernel_rfl)
 . exact (by kernel_rfl)
 . exact (by kernel_rfl)
 . exact (by kernel_rfl)
 . exact (by kernel_rfl)
 . exact (by kernel_rfl)
 . exact (by kernel_rfl)
 . exact (by kernel_rfl)
 . exact (by kernel_rfl)
 . exact (by kernel_rfl)
 . exact (by kernel_rfl)
 . exact (by kernel_rfl)
 . exact (by kernel_rfl)
 . exact (by kernel_rfl)
 . exact (by kernel_rfl)
 . exact (by kernel_rfl)
 . exact (by kernel_rfl)
 . cases h
theorem IP (n0:Nat)
 (ih_statute_solver_value:∀ m,m<=n0->∀ (s:AR) (e:Aa) (m_:Ag) (r:Int),AE m s e m_=some r->Cd Tryz.prog 35 [.agg [hO s.ops,.vmp (Mu s.names)],.agg [iP e.Op,iP e.N,tP e.S,hX e.Kids,iP e.At],.agg [hZ m_.d.Facts,iP m_.d.Stored,iP m_.d.Owner,iP m_.known]] (iP r))
 (n:Nat) (hn:n<=n0) (s:AR) (e:Aa) (m_:Ag) (r:Int) (h:AE (n+1) s e m_=some r):Cd Tryz.prog 35 [.agg [hO s.ops,.vmp (Mu s.names)],.agg [iP e.Op,iP e.N,tP e.S,hX e.Kids,iP e.At],.agg [hZ m_.d.Facts,iP m_.d.Stored,iP m_.d.Owner,iP m_.known]] (iP r):=by
 replace h:=(AE.eq_2 ..).symm.trans h
 refine vP ⟨[0,1,2,3,4,5,6,7,9,11,14,15,19,33,34,35,36],[]⟩ Tryz.func35 follows fun Q hQ=>?_
 refine cD 4 [] h (fun hc2 h=>?_) fun hc2 h=>?_
 cases h
 exact rt 1 [] hQ
 refine cD 1 [] h (fun hc1 h=>?_) fun hc1 h=>?_
 cases h
 exact rt 1 [(14,fLS [(⟨#[121,101,97,114]⟩,365),(⟨#[115,116,111,114,101,100]⟩,m_.d.Stored),(⟨#[110,101,118,101,114]⟩,41667),(⟨#[111,119,110,101,114]⟩,m_.d.Owner)] e.S)] hQ
 refine mE 2 [(3,fl A2 e.Kids)] h (fun x=>⟨[(3,.ptr 0 0),(4,.ptr 1 0),(5,.ptr 2 0),(6,iP 0),(7,oI x)],[[hO s.ops,.vmp (Mu s.names)],[iP e.Op,iP e.N,tP e.S,hX e.Kids,iP e.At],[hZ m_.d.Facts,iP m_.d.Stored,iP m_.d.Owner,iP m_.known]]⟩) ?_ fun y e1 hJ=>?_
 rintro x h
 obtain⟨f,hf,h⟩:=Ac h
 obtain⟨d,hd,h⟩:=Ac h
 obtain⟨r1,hr1,h⟩:=Ac h
 cases h
 exact rt 2 [(2,fk (GS _ _ _ _ hf)),(10,ff hd),(2,fv (Wl hr1) (XI _ _ _ _ _ hr1))] hQ
 refine lR 1 [] (A:=((List Int)×Int)) (fun n (x1,v35)=>AO n e s m_ x1 v35) (fun (x1,v35)=>⟨[(3,.ptr 0 0),(4,.ptr 1 0),(5,.ptr 2 0),(6,iP 0),(7,oI x1),(33,hX e.Kids),(34,iP (e.Kids.length:Int)),(35,iP v35)],[[hO s.ops,.vmp (Mu s.names)],[iP e.Op,iP e.N,tP e.S,hX e.Kids,iP e.At],[hZ m_.d.Facts,iP m_.d.Stored,iP m_.d.Owner,iP m_.known]]⟩) ([],0) hn e1 (fun _=>rfl) ?_
 rintro n ⟨x1,v35⟩ hn e1 ih
 replace e1:=(AO.eq_2 ..).symm.trans e1
 refine cD 1 [] e1 (fun hc e1=>?_) fun hc e1=>?_
 obtain⟨x2,hx2,e1⟩:=Ac e1
 obtain⟨v_,hv_,e1⟩:=Ac e1
 obtain⟨l,hl,e1⟩:=Ac e1
 obtain⟨l1,hl1,e1⟩:=Ac e1
 exact mJ 4 [(0,fi A2 hx2),(7,fk (ih_statute_solver_value _ hn _ _ _ _ hv_)),(0,fB Aw hl),(0,fa Aw hl1)] (ih (_,_) e1)
 exact mJ 1 [] (hJ _ (oj e1))
theorem F5:∀ n:Nat,(∀ m,m<=n->∀ (s:AR) (e:Aa) (m_:Ag) (r:Int),AE m s e m_=some r->Cd Tryz.prog 35 [.agg [hO s.ops,.vmp (Mu s.names)],.agg [iP e.Op,iP e.N,tP e.S,hX e.Kids,iP e.At],.agg [hZ m_.d.Facts,iP m_.d.Stored,iP m_.d.Owner,iP m_.known]] (iP r))
 |0=>(fun m hm s e m_ r h=>by
  obtain rfl:m=0:=by omega
  exact absurd h (by simp [AE]))
 |n+1=>by
  have ih:=F5 n
  exact fun m hm s e m_ r h=>by
   cases m with
   |zero=>exact absurd h (by simp [AE])
   |succ m=>exact IP n (ih) m (by omega) s e m_ _ h
theorem JN (n:Nat)(s:AR)(e:Aa)(m_:Ag)(r:Int)(h:AE n s e m_=some r):Cd Tryz.prog 35 [.agg [hO s.ops,.vmp (Mu s.names)],.agg [iP e.Op,iP e.N,tP e.S,hX e.Kids,iP e.At],.agg [hZ m_.d.Facts,iP m_.d.Stored,iP m_.d.Owner,iP m_.known]] (iP r) :=
 (F5 n) n (Nat.le_refl _) s e m_ r h
end Go.Proofs.YtkcfmlfkfagejaaGreatDoor
namespace Go.Proofs.YtkcfmlfkfagejaaGreatDoor
open Go.RowKit Go.Q Go.Vl Go.Sp
theorem BZ (e:Aa)(r:Int×Ab×Av)(h:Ip e=some r):Cd Tryz.prog 34 [.agg [Bd,CN],.agg [iP e.Op,iP e.N,tP e.S,hP e.Kids Ba,iP e.At]] (.tup [iP r.1,.agg [iP r.2.1.op,tP r.2.1.name,hP r.2.1.args Az,iP r.2.1.kind,.fno (KB r.2.1.do_) (JA r.2.1.do_) (JK r.2.1.do_)],.agg [iP r.2.2.At,iP r.2.2.E]]):=by
 intro σ
 unfold Ip at h
 split at h
 . rename_i hs
   rw [<- Ah h]
   refine VC.dis fun i=>?_
   obtain⟨n,hn⟩:=(Ro (Qp i) e hs).get
   exact GS n ⟨opsOf (Qq i),B8⟩ e _ hn σ
 . cases h
theorem PY (e:Aa)(m:Ag)(r:Int)(h:PE e m=some r):Cd Tryz.prog 35 [.agg [Bd,CN],.agg [iP e.Op,iP e.N,tP e.S,hP e.Kids Ba,iP e.At],.agg [hP m.d.Facts Dc,iP m.d.Stored,iP m.d.Owner,iP m.known]] (iP r):=by
 intro σ
 unfold PE at h
 split at h
 . rename_i hs
   rw [<- Ah h]
   refine VC.dis fun i=>?_
   obtain⟨n,hn⟩:=(RN (Qp i) m (TX hs.2.2) e hs.1 hs.2.1).1.get
   exact JN n ⟨opsOf (Qq i),B8⟩ e m _ hn σ
 . cases h
end Go.Proofs.YtkcfmlfkfagejaaGreatDoor
