/-
  The walks of chapter 33: find: the program computes the plain functions. (Printed by lift.py.) The walks of chapter 33: value: the program computes the plain functions. (Printed by lift.py.) The walks of find and value, for callers: in every order of the table.
-/
import Derived.Test.YtkcfmlfkfagejaaGreatDoorU7
import Derived.Test.YtkcfmlfkfagejaaGreatDoorU12
import Derived.Test.YtkcfmlfkfagejaaGreatDoorU15
import Derived.Test.YtkcfmlfkfagejaaGreatDoorU25
import Derived.Test.YtkcfmlfkfagejaaGreatDoorU26
import Derived.Test.YtkcfmlfkfagejaaGreatDoorU27
set_option linter.unusedVariables false
set_option linter.unusedSimpArgs false
namespace Go.Proofs.YtkcfmlfkfagejaaGreatDoor
open Go.RowKit Go.Q Go.Vl Go.Sp
set_option maxRecDepth 100000
set_option linter.unusedSimpArgs false
set_option maxHeartbeats 4000000
set_option linter.unusedVariables false
theorem Nv (op:Int)(r:Int)(h:EC op=some r):CZ Tryz.prog 57 [iP op] (iP r):=by
 unfold EC at h
 refine vP ⟨[0,2,3,4,8,11,13],[]⟩ Tryz.func57 follows fun Q hQ=>?_
 refine mE 4 [] h (fun v4=>⟨[(2,iP 0),(3,iP op),(4,bP v4)],[]⟩) ?_ fun y e hJ=>?_
 rintro v4 h
 refine cD 0 [] h (fun hc4 h=>?_) fun hc4 h=>?_
 cases h
 exact rt 1 [] hQ
 refine mE 1 [] h (fun v8=>⟨[(2,iP 0),(3,iP op),(8,bP v8)],[]⟩) ?_ fun y1 e1 hJ1=>?_
 rintro v8 h
 refine cD 0 [] h (fun hc2 h=>?_) fun hc2 h=>?_
 cases h
 exact rt 1 [] hQ
 refine cD 1 [] h (fun hc1 h=>?_) fun hc1 h=>?_
 cases h
 exact rt 1 [] hQ
 refine cD 1 [] h (fun hc h=>?_) fun hc h=>?_
 cases h
 exact rt 1 [] hQ
 cases h
 exact rt 1 [] hQ
 refine cD 0 [] e1 (fun hc3 e1=>?_) fun hc3 e1=>?_
 exact mJ 0 [] (hJ1 _ (oj e1))
 exact mJ 1 [] (hJ1 _ (oj e1))
 refine cD 0 [] e (fun hc6 e=>?_) fun hc6 e=>?_
 exact mJ 0 [] (hJ _ (oj e))
 refine cD 1 [] e (fun hc5 e=>?_) fun hc5 e=>?_
 exact mJ 0 [] (hJ _ (oj e))
 exact mJ 1 [] (hJ _ (oj e))
theorem B6 (s:(List Af))(s1:(List (ByteArray×Int)))(e:Int)(e1:Int)(e2:Â)(e3:(List Aa))(e4:Int)(o_:Int)(o_1:Â)(o_2:(List Int))(o_3:Int)(o_4:Do)(p:Int)(p1:Int)(x:Int)(r:(Int×Af×Am))(h:AY s s1 e e1 e2 e3 e4 o_ o_1 o_2 o_3 o_4 p p1 x=some r):M9 Tryz.prog 56 [iP x,.ptr 1 0] [[hO s,.vmp (NL s1)],[iP e,iP e1,tP e2,hX e3,iP e4],[iP o_,tP o_1,oI o_2,iP o_3,.fno (LO o_4) (K4 o_4) (KM o_4)],[iP p,iP p1]] (.ret (.tup [iP r.1,.agg [iP r.2.1.op,tP r.2.1.name,hI r.2.1.args,iP r.2.1.kind,.fno (LO r.2.1.do_) (K4 r.2.1.do_) (KM r.2.1.do_)],.agg [iP r.2.2.At,iP r.2.2.E]])) [[hO s,.vmp (NL s1)],[iP e,iP e1,tP e2,hX e3,iP e4],[iP o_,tP o_1,oI o_2,iP o_3,.fno (LO o_4) (K4 o_4) (KM o_4)],[iP p,iP p1]]:=by
 unfold AY at h
 refine vS ⟨[0,1,3,4,5],[(1,[9999,1,4,0,1,2,3,4,5,6,7])]⟩ Tryz.func56 follows fun Q hQ=>?_
 cases h
 exact rt 2 [] hQ
theorem Ol (n:Nat)(s1:(List Int))(s2:(List Int))(r:Bool)(h:Dx n s1 s2=some r):CZ Tryz.prog 58 [hI s1,hI s2] (bP r):=by
 unfold Dx at h
 refine vP ⟨[0,1,4,5,10,12,13,14,24],[]⟩ Tryz.func58 follows fun Q hQ=>?_
 refine cD 2 [(2,fl Bd s1),(1,fl Bd s2)] h (fun hc2 h=>?_) fun hc2 h=>?_
 cases h
 exact rt 1 [] hQ
 refine mI 1 [(1,fl Bd s1)] h (fun _=>⟨[(4,bP false)],[]⟩) ?_ fun y e h hJ=>?_
 rintro _ h
 cases h
 exact rt 1 [] hQ
 refine lF 1 [] (A:=Int) (fun n v13=>BN n s1 s2 v13) (fun v13=>⟨[(0,hI s1),(1,hI s2),(4,bP false),(12,iP (s1.length:Int)),(13,iP v13)],[]⟩) 0 e (fun _=>rfl) ?_
 rintro n v13 e ih
 replace e:=(BN.eq_2 ..).symm.trans e
 refine cD 1 [] e (fun hc1 e=>?_) fun hc1 e=>?_
 obtain⟨x,hx,e⟩:=Ad e
 obtain⟨x1,hx1,e⟩:=Ad e
 refine cD 3 [(4,fi Bd hx),(3,fi Bd hx1)] e (fun hc e=>?_) fun hc e=>?_
 cases e
 cases h
 exact rt 1 [] hQ
 exact mJ 1 [] (ih _ e)
 exact mJ 1 [] (hJ _ (oj e))
theorem JZ (n0:Nat)
 (ih_statute_solver_find:∀ m,m<=n0->∀ (s:Ba) (e:Aa) (r:(Int×Af×Am)),A8 m s e=some r->CZ Tryz.prog 34 [.agg [hO s.ops,.vmp (NL s.names)],.agg [iP e.Op,iP e.N,tP e.S,hX e.Kids,iP e.At]] (.tup [iP r.1,.agg [iP r.2.1.op,tP r.2.1.name,hI r.2.1.args,iP r.2.1.kind,.fno (LO r.2.1.do_) (K4 r.2.1.do_) (KM r.2.1.do_)],.agg [iP r.2.2.At,iP r.2.2.E]]))
 (n:Nat) (hn:n<=n0) (s:Ba) (e:Aa) (r:(Int×Af×Am)) (h:A8 (n+1) s e=some r):CZ Tryz.prog 34 [.agg [hO s.ops,.vmp (NL s.names)],.agg [iP e.Op,iP e.N,tP e.S,hX e.Kids,iP e.At]] (.tup [iP r.1,.agg [iP r.2.1.op,tP r.2.1.name,hI r.2.1.args,iP r.2.1.kind,.fno (LO r.2.1.do_) (K4 r.2.1.do_) (KM r.2.1.do_)],.agg [iP r.2.2.At,iP r.2.2.E]]):=by
 replace h:=(A8.eq_2 ..).symm.trans h
 refine vP ⟨[0,1,2,3,4,5,6,7,8,9,11,12,14,15,16,17,18,20,43,50,51,52,53,65,74,75,84,92,99,109,119,120,121,122,141,154,160,173],[(11,[9999,1,2,0,1,2,3,4]),(18,[9999,1,2,0,1,2,3,4]),(24,[9999,1,2,0,1,2,3,4,5]),(31,[9999,0,0,1,2,3,4,5,6,7,8,9,10]),(33,[9999,1,2,0,1,2,3,4,5,6])]⟩ Tryz.func34 follows fun Q hQ=>?_
 obtain⟨n_,hn_,h⟩:=Ad h
 refine mE 3 [(9,fk (Nv _ _ hn_))] h (fun v43=>⟨[(2,.ptr 0 0),(3,.ptr 1 0),(4,iP 0),(5,.ptr 2 0),(6,.ptr 3 0),(7,.fn 56 [.ptr 1 0]),(43,bP v43)],[[hO s.ops,.vmp (NL s.names)],[iP e.Op,iP e.N,tP e.S,hX e.Kids,iP e.At],[iP 0,tP ⟨#[]⟩,.sl [] .own,iP 0,.fno (LO Do.nil) (K4 Do.nil) (KM Do.nil)],[iP 0,iP 0]]⟩) ?_ fun y e1 hJ=>?_
 rintro v43 h
 refine cD 0 [] h (fun hc18 h=>?_) fun hc18 h=>?_
 obtain⟨f,hf,h⟩:=Ad h
 cases h
 exact rt 1 [(1,fs (B6 _ _ _ _ _ _ _ _ _ _ _ _ _ _ _ _ hf))] hQ
 refine mI 2 [(3,fl A7 e.Kids)] h (fun types=>⟨[(2,.ptr 0 0),(3,.ptr 1 0),(4,iP 0),(5,.ptr 2 0),(6,.ptr 3 0),(7,.fn 56 [.ptr 1 0]),(9,oI types)],[[hO s.ops,.vmp (NL s.names)],[iP e.Op,iP e.N,tP e.S,hX e.Kids,iP e.At],[iP 0,tP ⟨#[]⟩,.sl [] .own,iP 0,.fno (LO Do.nil) (K4 Do.nil) (KM Do.nil)],[iP 0,iP 0]]⟩) ?_ fun y1 e2 h hJ1=>?_
 rintro types h
 refine cD 3 [] h (fun hc15 h=>?_) fun hc15 h=>?_
 refine mE 0 [] h (fun v84=>⟨[(2,.ptr 0 0),(3,.ptr 1 0),(4,iP 0),(5,.ptr 2 0),(6,.ptr 3 0),(7,.fn 56 [.ptr 1 0]),(9,oI types),(84,bP v84)],[[hO s.ops,.vmp (NL s.names)],[iP e.Op,iP e.N,tP e.S,hX e.Kids,iP e.At],[iP 0,tP ⟨#[]⟩,.sl [] .own,iP 0,.fno (LO Do.nil) (K4 Do.nil) (KM Do.nil)],[iP 0,iP 0]]⟩) ?_ fun y2 e3 hJ2=>?_
 rintro v84 h
 refine cD 0 [] h (fun hc h=>?_) fun hc h=>?_
 obtain⟨f1,hf1,h⟩:=Ad h
 cases h
 exact rt 1 [(1,fs (B6 _ _ _ _ _ _ _ _ _ _ _ _ _ _ _ _ hf1))] hQ
 cases h
 exact rt 1 [] hQ
 rcases An e3 with⟨hc1,e3⟩|⟨hc1,e3⟩
 exact mJ 1 [(3,fo hc1)] (hJ2 _ (oj e3))
 exact mJ 1 [(3,fo hc1)] (hJ2 _ (oj e3))
 refine cD 1 [] h (fun hc14 h=>?_) fun hc14 h=>?_
 obtain⟨f2,hf2,h⟩:=Ad h
 cases h
 exact rt 1 [(1,fs (B6 _ _ _ _ _ _ _ _ _ _ _ _ _ _ _ _ hf2))] hQ
 refine cD 1 [] h (fun hc13 h=>?_) fun hc13 h=>?_
 refine cD 2 [(4,fLS s.names e.S)] h (fun hc2 h=>?_) fun hc2 h=>?_
 cases h
 exact rt 1 [] hQ
 obtain⟨f3,hf3,h⟩:=Ad h
 cases h
 exact rt 1 [(1,fs (B6 _ _ _ _ _ _ _ _ _ _ _ _ _ _ _ _ hf3))] hQ
 refine mI 2 [(4,fl HL s.ops)] h (fun (known,fits)=>⟨[(3,.ptr 1 0),(4,iP 0),(5,.ptr 2 0),(6,.ptr 3 0),(7,.fn 56 [.ptr 1 0]),(17,bP known),(18,bP fits)],[[hO s.ops,.vmp (NL s.names)],[iP e.Op,iP e.N,tP e.S,hX e.Kids,iP e.At],[iP 0,tP ⟨#[]⟩,.sl [] .own,iP 0,.fno (LO Do.nil) (K4 Do.nil) (KM Do.nil)],[iP 0,iP 0]]⟩) ?_ fun y3 e4 h hJ3=>?_
 rintro⟨known,fits⟩ h
 refine mE 1 [] h (fun v160=>⟨[(3,.ptr 1 0),(4,iP 0),(5,.ptr 2 0),(6,.ptr 3 0),(7,.fn 56 [.ptr 1 0]),(18,bP fits),(160,bP v160)],[[hO s.ops,.vmp (NL s.names)],[iP e.Op,iP e.N,tP e.S,hX e.Kids,iP e.At],[iP 0,tP ⟨#[]⟩,.sl [] .own,iP 0,.fno (LO Do.nil) (K4 Do.nil) (KM Do.nil)],[iP 0,iP 0]]⟩) ?_ fun y4 e5 hJ4=>?_
 rintro v160 h
 refine cD 0 [] h (fun hc5 h=>?_) fun hc5 h=>?_
 obtain⟨f4,hf4,h⟩:=Ad h
 cases h
 exact rt 1 [(1,fs (B6 _ _ _ _ _ _ _ _ _ _ _ _ _ _ _ _ hf4))] hQ
 refine mE 0 [] h (fun v173=>⟨[(4,iP 0),(5,.ptr 2 0),(6,.ptr 3 0),(7,.fn 56 [.ptr 1 0]),(173,bP v173)],[[hO s.ops,.vmp (NL s.names)],[iP e.Op,iP e.N,tP e.S,hX e.Kids,iP e.At],[iP 0,tP ⟨#[]⟩,.sl [] .own,iP 0,.fno (LO Do.nil) (K4 Do.nil) (KM Do.nil)],[iP 0,iP 0]]⟩) ?_ fun y5 e6 hJ5=>?_
 rintro v173 h
 refine cD 0 [] h (fun hc3 h=>?_) fun hc3 h=>?_
 obtain⟨f5,hf5,h⟩:=Ad h
 cases h
 exact rt 1 [(1,fs (B6 _ _ _ _ _ _ _ _ _ _ _ _ _ _ _ _ hf5))] hQ
 obtain⟨f6,hf6,h⟩:=Ad h
 cases h
 exact rt 1 [(1,fs (B6 _ _ _ _ _ _ _ _ _ _ _ _ _ _ _ _ hf6))] hQ
 rcases An e6 with⟨hc4,e6⟩|⟨hc4,e6⟩
 exact mJ 1 [(3,fo hc4)] (hJ5 _ (oj e6))
 exact mJ 1 [(3,fo hc4)] (hJ5 _ (oj e6))
 rcases An e5 with⟨hc6,e5⟩|⟨hc6,e5⟩
 exact mJ 1 [(3,fo hc6)] (hJ4 _ (oj e5))
 exact mJ 1 [(3,fo hc6)] (hJ4 _ (oj e5))
 refine lR 1 [] (A:=(Bool×Bool×Int)) (fun n (known1,fits1,v121)=>AP n s e types known1 fits1 v121) (fun (known1,fits1,v121)=>⟨[(3,.ptr 1 0),(4,iP 0),(5,.ptr 2 0),(6,.ptr 3 0),(7,.fn 56 [.ptr 1 0]),(9,oI types),(17,bP known1),(18,bP fits1),(119,hO s.ops),(120,iP (s.ops.length:Int)),(121,iP v121)],[[hO s.ops,.vmp (NL s.names)],[iP e.Op,iP e.N,tP e.S,hX e.Kids,iP e.At],[iP 0,tP ⟨#[]⟩,.sl [] .own,iP 0,.fno (LO Do.nil) (K4 Do.nil) (KM Do.nil)],[iP 0,iP 0]]⟩) (false,false,0) hn e4 (fun _=>rfl) ?_
 rintro n ⟨known1,fits1,v121⟩ hn e4 ih
 replace e4:=(AP.eq_2 ..).symm.trans e4
 refine cD 1 [] e4 (fun hc12 e4=>?_) fun hc12 e4=>?_
 obtain⟨x,hx,e4⟩:=Ad e4
 refine mE 2 [(0,fi HL hx)] e4 (fun v141=>⟨[(3,.ptr 1 0),(4,iP 0),(5,.ptr 2 0),(6,.ptr 3 0),(7,.fn 56 [.ptr 1 0]),(9,oI types),(17,bP known1),(18,bP fits1),(20,.ptr 4 0),(119,hO s.ops),(120,iP (s.ops.length:Int)),(121,iP v121),(141,bP v141)],[[hO s.ops,.vmp (NL s.names)],[iP e.Op,iP e.N,tP e.S,hX e.Kids,iP e.At],[iP 0,tP ⟨#[]⟩,.sl [] .own,iP 0,.fno (LO Do.nil) (K4 Do.nil) (KM Do.nil)],[iP 0,iP 0],[iP x.op,tP x.name,hI x.args,iP x.kind,.fno (LO x.do_) (K4 x.do_) (KM x.do_)]]⟩) ?_ fun y6 e7 hJ6=>?_
 rintro v141 e4
 refine cD 0 [] e4 (fun hc9 e4=>?_) fun hc9 e4=>?_
 exact mJ 2 [] (ih (_,_,_) e4)
 refine mE 0 [] e4 (fun fits2=>⟨[(3,.ptr 1 0),(4,iP 0),(5,.ptr 2 0),(6,.ptr 3 0),(7,.fn 56 [.ptr 1 0]),(9,oI types),(17,bP true),(18,bP fits2),(20,.ptr 4 0),(119,hO s.ops),(120,iP (s.ops.length:Int)),(121,iP v121)],[[hO s.ops,.vmp (NL s.names)],[iP e.Op,iP e.N,tP e.S,hX e.Kids,iP e.At],[iP 0,tP ⟨#[]⟩,.sl [] .own,iP 0,.fno (LO Do.nil) (K4 Do.nil) (KM Do.nil)],[iP 0,iP 0],[iP x.op,tP x.name,hI x.args,iP x.kind,.fno (LO x.do_) (K4 x.do_) (KM x.do_)]]⟩) ?_ fun y7 e8 hJ7=>?_
 rintro fits2 e4
 obtain⟨e9,he9,e4⟩:=Ad e4
 refine cD 1 [(3,fk (Ol _ _ _ _ he9))] e4 (fun hc7 e4=>?_) fun hc7 e4=>?_
 cases e4
 cases h
 exact rt 1 [] hQ
 exact mJ 1 [] (ih (_,_,_) e4)
 rcases An e8 with⟨hc8,e8⟩|⟨hc8,e8⟩
 exact mJ 1 [(1,fo hc8)] (hJ7 _ (oj e8))
 exact mJ 1 [(1,fo hc8),(2,fl Bd x.args),(1,fl Bd types)] (hJ7 _ (oj e8))
 rcases An e7 with⟨hc10,e7⟩|⟨hc10,e7⟩
 exact mJ 1 [(5,fo hc10)] (hJ6 _ (oj e7))
 rcases An e7 with⟨hc11,e7⟩|⟨hc11,e7⟩
 exact mJ 1 [(5,fo hc10),(3,fo hc11)] (hJ6 _ (oj e7))
 exact mJ 1 [(5,fo hc10),(3,fo hc11)] (hJ6 _ (oj e7))
 exact mJ 1 [] (hJ3 _ (oj e4))
 refine lR 1 [] (A:=((List Int)×Int)) (fun n (types1,v52)=>Bq n e s types1 v52) (fun (types1,v52)=>⟨[(2,.ptr 0 0),(3,.ptr 1 0),(4,iP 0),(5,.ptr 2 0),(6,.ptr 3 0),(7,.fn 56 [.ptr 1 0]),(9,oI types1),(50,hX e.Kids),(51,iP (e.Kids.length:Int)),(52,iP v52)],[[hO s.ops,.vmp (NL s.names)],[iP e.Op,iP e.N,tP e.S,hX e.Kids,iP e.At],[iP 0,tP ⟨#[]⟩,.sl [] .own,iP 0,.fno (LO Do.nil) (K4 Do.nil) (KM Do.nil)],[iP 0,iP 0]]⟩) ([],0) hn e2 (fun _=>rfl) ?_
 rintro n ⟨types1,v52⟩ hn e2 ih1
 replace e2:=(Bq.eq_2 ..).symm.trans e2
 refine cD 1 [] e2 (fun hc17 e2=>?_) fun hc17 e2=>?_
 obtain⟨x1,hx1,e2⟩:=Ad e2
 obtain⟨f7,hf7,e2⟩:=Ad e2
 refine cD 4 [(0,fi A7 hx1),(5,fk (ih_statute_solver_find _ hn _ _ _ hf7))] e2 (fun hc16 e2=>?_) fun hc16 e2=>?_
 cases e2
 cases h
 exact rt 1 [] hQ
 obtain⟨l,hl,e2⟩:=Ad e2
 obtain⟨l1,hl1,e2⟩:=Ad e2
 exact mJ 2 [(2,fB Bd hl),(0,fa Bd hl1)] (ih1 (_,_) e2)
 exact mJ 1 [] (hJ1 _ (oj e2))
 rcases An e1 with⟨hc19,e1⟩|⟨hc19,e1⟩
 exact mJ 1 [(3,fo hc19)] (hJ _ (oj e1))
 rcases An e1 with⟨hc20,e1⟩|⟨hc20,e1⟩
 exact mJ 1 [(3,fo hc19),(4,fo hc20)] (hJ _ (oj e1))
 rcases An e1 with⟨hc21,e1⟩|⟨hc21,e1⟩
 exact mJ 1 [(3,fo hc19),(4,fo hc20),(2,fo hc21),(2,fl A7 e.Kids)] (hJ _ (oj e1))
 exact mJ 1 [(3,fo hc19),(4,fo hc20),(2,fo hc21)] (hJ _ (oj e1))
theorem GB:∀ n:Nat,(∀ m,m<=n->∀ (s:Ba) (e:Aa) (r:(Int×Af×Am)),A8 m s e=some r->CZ Tryz.prog 34 [.agg [hO s.ops,.vmp (NL s.names)],.agg [iP e.Op,iP e.N,tP e.S,hX e.Kids,iP e.At]] (.tup [iP r.1,.agg [iP r.2.1.op,tP r.2.1.name,hI r.2.1.args,iP r.2.1.kind,.fno (LO r.2.1.do_) (K4 r.2.1.do_) (KM r.2.1.do_)],.agg [iP r.2.2.At,iP r.2.2.E]]))
 |0=>(fun m hm s e r h=>by
  obtain rfl:m=0:=by omega
  exact absurd h (by simp [A8]))
 |n+1=>by
  have ih:=GB n
  exact fun m hm s e r h=>by
   cases m with
   |zero=>exact absurd h (by simp [A8])
   |succ m=>exact JZ n (ih) m (by omega) s e _ h
theorem HG (n:Nat)(s:Ba)(e:Aa)(r:(Int×Af×Am))(h:A8 n s e=some r):CZ Tryz.prog 34 [.agg [hO s.ops,.vmp (NL s.names)],.agg [iP e.Op,iP e.N,tP e.S,hX e.Kids,iP e.At]] (.tup [iP r.1,.agg [iP r.2.1.op,tP r.2.1.name,hI r.2.1.args,iP r.2.1.kind,.fno (LO r.2.1.do_) (K4 r.2.1.do_) (KM r.2.1.do_)],.agg [iP r.2.2.At,iP r.2.2.E]]) :=
 (GB n) n (Õ _) s e r h
end Go.Proofs.YtkcfmlfkfagejaaGreatDoor
namespace Go.Proofs.YtkcfmlfkfagejaaGreatDoor
open Go.RowKit Go.Q Go.Vl Go.Sp
set_option maxRecDepth 100000
set_option linter.unusedSimpArgs false
set_option maxHeartbeats 4000000
set_option linter.unusedVariables false
theorem Ada (n:Nat)(d:Do)(m:Al)(x:List Int)(r:Int)(h:Gz n d m x=some r):CZ Tryz.prog (K4 d) ([.agg [hZ m.d.Facts,iP m.d.Stored,iP m.d.Owner,iP m.known],hI x]++KM d) (iP r):=by
 unfold Gz at h
 split at h
 . exact Lc m x r h
 . exact Lb m x r h
 . exact La m x r h
 . exact KZ m x r h
 . exact KY m x r h
 . exact KW m x r h
 . exact KV m x r h
 . exact KU m x r h
 . exact KS m x r h
 . exact Km m x r h
 . exact Kl m x r h
 . exact Kk m x r h
 . exact Kc m x r h
 . exact Kb m x r h
 . exact Ka m x r h
 . exact Kj n _ m x r h
 . exact Jc m x r h
 . exact Jb m x r h
 . exact Ja m x r h
 . exact IZ m x r h
 . exact IY m x r h
 . exact I3 m x r h
 . cases h
theorem Zx {n:Nat}{d:Do}{m:Al}{x:List Int}{r:Int}(h:Gz n d m x=some r):LZ Tryz.prog (K4 d)=true:=by
 unfold Gz at h
 split at h
 . exact (by kernel_rfl)
 . exact (by kernel_rfl)
 . exact (by kernel_rfl)
 . exact (by kernel_rfl)
 . exact (by kernel_rfl)
 . exact (by kernel_rfl)
 . exact (by kernel_rfl)
 . exact (by kernel_rfl)
 . exact (by kernel_rfl)
 . exact (by kernel_rfl)
 . exact (by kernel_rfl)
 . exact (by kernel_rfl)
 . exact (by kernel_rfl)
 . exact (by kernel_rfl)
 . exact (by kernel_rfl)
 . exact (by kernel_rfl)
 . exact (by kernel_rfl)
 . exact (by kernel_rfl)
 . exact (by kernel_rfl)
 . exact (by kernel_rfl)
 . exact (by kernel_rfl)
 . exact (by kernel_rfl)
 . cases h
theorem J8 (n0:Nat)
 (ih_statute_solver_value:∀ m,m<=n0->∀ (s:Ba) (e:Aa) (m_:Al) (r:Int),AE m s e m_=some r->CZ Tryz.prog 35 [.agg [hO s.ops,.vmp (NL s.names)],.agg [iP e.Op,iP e.N,tP e.S,hX e.Kids,iP e.At],.agg [hZ m_.d.Facts,iP m_.d.Stored,iP m_.d.Owner,iP m_.known]] (iP r))
 (n:Nat) (hn:n<=n0) (s:Ba) (e:Aa) (m_:Al) (r:Int) (h:AE (n+1) s e m_=some r):CZ Tryz.prog 35 [.agg [hO s.ops,.vmp (NL s.names)],.agg [iP e.Op,iP e.N,tP e.S,hX e.Kids,iP e.At],.agg [hZ m_.d.Facts,iP m_.d.Stored,iP m_.d.Owner,iP m_.known]] (iP r):=by
 replace h:=(AE.eq_2 ..).symm.trans h
 refine vP ⟨[0,1,2,3,4,5,6,7,9,11,14,15,19,33,34,35,36],[]⟩ Tryz.func35 follows fun Q hQ=>?_
 refine cD 4 [] h (fun hc2 h=>?_) fun hc2 h=>?_
 cases h
 exact rt 1 [] hQ
 refine cD 1 [] h (fun hc1 h=>?_) fun hc1 h=>?_
 cases h
 exact rt 1 [(14,fLS [(⟨#[121,101,97,114]⟩,365),(⟨#[115,116,111,114,101,100]⟩,m_.d.Stored),(⟨#[110,101,118,101,114]⟩,41667),(⟨#[111,119,110,101,114]⟩,m_.d.Owner)] e.S)] hQ
 refine mE 2 [(3,fl A7 e.Kids)] h (fun x=>⟨[(3,.ptr 0 0),(4,.ptr 1 0),(5,.ptr 2 0),(6,iP 0),(7,oI x)],[[hO s.ops,.vmp (NL s.names)],[iP e.Op,iP e.N,tP e.S,hX e.Kids,iP e.At],[hZ m_.d.Facts,iP m_.d.Stored,iP m_.d.Owner,iP m_.known]]⟩) ?_ fun y e1 hJ=>?_
 rintro x h
 obtain⟨f,hf,h⟩:=Ad h
 obtain⟨d,hd,h⟩:=Ad h
 obtain⟨r1,hr1,h⟩:=Ad h
 cases h
 exact rt 2 [(2,fk (HG _ _ _ _ hf)),(10,ff hd),(2,fv (Zx hr1) (Ada _ _ _ _ _ hr1))] hQ
 refine lR 1 [] (A:=((List Int)×Int)) (fun n (x1,v35)=>AS n e s m_ x1 v35) (fun (x1,v35)=>⟨[(3,.ptr 0 0),(4,.ptr 1 0),(5,.ptr 2 0),(6,iP 0),(7,oI x1),(33,hX e.Kids),(34,iP (e.Kids.length:Int)),(35,iP v35)],[[hO s.ops,.vmp (NL s.names)],[iP e.Op,iP e.N,tP e.S,hX e.Kids,iP e.At],[hZ m_.d.Facts,iP m_.d.Stored,iP m_.d.Owner,iP m_.known]]⟩) ([],0) hn e1 (fun _=>rfl) ?_
 rintro n ⟨x1,v35⟩ hn e1 ih
 replace e1:=(AS.eq_2 ..).symm.trans e1
 refine cD 1 [] e1 (fun hc e1=>?_) fun hc e1=>?_
 obtain⟨x2,hx2,e1⟩:=Ad e1
 obtain⟨v_,hv_,e1⟩:=Ad e1
 obtain⟨l,hl,e1⟩:=Ad e1
 obtain⟨l1,hl1,e1⟩:=Ad e1
 exact mJ 4 [(0,fi A7 hx2),(7,fk (ih_statute_solver_value _ hn _ _ _ _ hv_)),(0,fB Bd hl),(0,fa Bd hl1)] (ih (_,_) e1)
 exact mJ 1 [] (hJ _ (oj e1))
theorem Gn:∀ n:Nat,(∀ m,m<=n->∀ (s:Ba) (e:Aa) (m_:Al) (r:Int),AE m s e m_=some r->CZ Tryz.prog 35 [.agg [hO s.ops,.vmp (NL s.names)],.agg [iP e.Op,iP e.N,tP e.S,hX e.Kids,iP e.At],.agg [hZ m_.d.Facts,iP m_.d.Stored,iP m_.d.Owner,iP m_.known]] (iP r))
 |0=>(fun m hm s e m_ r h=>by
  obtain rfl:m=0:=by omega
  exact absurd h (by simp [AE]))
 |n+1=>by
  have ih:=Gn n
  exact fun m hm s e m_ r h=>by
   cases m with
   |zero=>exact absurd h (by simp [AE])
   |succ m=>exact J8 n (ih) m (by omega) s e m_ _ h
theorem KQ (n:Nat)(s:Ba)(e:Aa)(m_:Al)(r:Int)(h:AE n s e m_=some r):CZ Tryz.prog 35 [.agg [hO s.ops,.vmp (NL s.names)],.agg [iP e.Op,iP e.N,tP e.S,hX e.Kids,iP e.At],.agg [hZ m_.d.Facts,iP m_.d.Stored,iP m_.d.Owner,iP m_.known]] (iP r) :=
 (Gn n) n (Õ _) s e m_ r h
end Go.Proofs.YtkcfmlfkfagejaaGreatDoor
namespace Go.Proofs.YtkcfmlfkfagejaaGreatDoor
open Go.RowKit Go.Q Go.Vl Go.Sp
theorem C9 (e:Aa)(r:Int×Af×Am)(h:Ha e=some r):CZ Tryz.prog 34 [.agg [Bp,Dw],.agg [iP e.Op,iP e.N,tP e.S,hP e.Kids Bn,iP e.At]] (.tup [iP r.1,.agg [iP r.2.1.op,tP r.2.1.name,hP r.2.1.args Ay,iP r.2.1.kind,.fno (LO r.2.1.do_) (K4 r.2.1.do_) (KM r.2.1.do_)],.agg [iP r.2.2.At,iP r.2.2.E]]):=by
 intro σ
 unfold Ha at h
 split at h
 . rename_i hs
   rw [<- Ac h]
   refine VC.dis fun i=>?_
   obtain⟨n,hn⟩:=(TM (Ss i) e hs).get
   exact HG n ⟨opsOf (Su i),CC⟩ e _ hn σ
 . cases h
theorem RZ (e:Aa)(m:Al)(r:Int)(h:Y8 e m=some r):CZ Tryz.prog 35 [.agg [Bp,Dw],.agg [iP e.Op,iP e.N,tP e.S,hP e.Kids Bn,iP e.At],.agg [hP m.d.Facts GW,iP m.d.Stored,iP m.d.Owner,iP m.known]] (iP r):=by
 intro σ
 unfold Y8 at h
 split at h
 . rename_i hs
   rw [<- Ac h]
   refine VC.dis fun i=>?_
   obtain⟨n,hn⟩:=(U8 (Ss i) m (Agf hs.2.2) e hs.1 hs.2.1).1.get
   exact KQ n ⟨opsOf (Su i),CC⟩ e m _ hn σ
 . cases h
end Go.Proofs.YtkcfmlfkfagejaaGreatDoor
