/-
  The walks of chapter 33: operators and parser: the program computes the plain functions. (Printed by lift.py.)
-/
import Derived.Test.YtkcfmlfkfagejaaGreatDoorU7
import Derived.Test.YtkcfmlfkfagejaaGreatDoorU12
import Derived.Test.YtkcfmlfkfagejaaGreatDoorU25
set_option linter.unusedVariables false
set_option linter.unusedSimpArgs false
namespace Go.Proofs.YtkcfmlfkfagejaaGreatDoor
open Go.RowKit Go.Q Go.Vl Go.Sp
set_option maxRecDepth 100000
set_option linter.unusedSimpArgs false
set_option maxHeartbeats 4000000
set_option linter.unusedVariables false
theorem Dj (r:(List Av))(h:C9=some r):Dr Tryz.prog 135 [] (oE r):=by
 unfold C9 at h
 refine vPo ⟨[0],[]⟩ Tryz.func135 follows fun Q hQ=>?_
 obtain⟨l,hl,h⟩:=Ad h
 cases h
 exact ro 2 [(14,fB Cc hl)] hQ
theorem A7 (p:Ae)(e:Int)(r:(Ex Au Ae Unit))(h:AN p e=some r):Jg r (fun v0 s0=>CR Tryz.prog 118 [iP e] [hT p.l,iP p.forms] (.ret (.tup [])) [hT s0.l,iP s0.forms]) (fun e0 s0=>CR Tryz.prog 118 [iP e] [hT p.l,iP p.forms] (.pan [{ v:=.iface 170 (.agg #[(.int .i64 e0.At),(.int .i64 e0.E)]),recovered:=false }]) [hT s0.l,iP s0.forms]):=by
 unfold AN at h
 refine Xc ⟨[0,1],[]⟩ Tryz.func118 follows fun Q hQ=>?_
 obtain⟨x,hx,h⟩:=Ad h
 cases h
 exact rp 1 [(4,fi B0 hx)] hQ
theorem AS (p:Ae)(r:(Ac×Ae))(h:A6 p=some r):CR Tryz.prog 119 [] [hT p.l,iP p.forms] (.ret (.agg [iP r.1.Kind,iP r.1.At,tP r.1.S,iP r.1.N])) [hT r.2.l,iP r.2.forms]:=by
 unfold A6 at h
 refine vM ⟨[0,2,3],[]⟩ Tryz.func119 follows fun Q hQ=>?_
 obtain⟨x,hx,h⟩:=Ad h
 obtain⟨l,hl,h⟩:=Ad h
 cases h
 exact rt 4 [(5,fi B0 hx),(8,fse B0 hl)] hQ
theorem Bi (p:Ae)(s:ByteArray)(r:Bool)(h:AM p s=some r):CR Tryz.prog 120 [tP s] [hT p.l,iP p.forms] (.ret (bP r)) [hT p.l,iP p.forms]:=by
 unfold AM at h
 refine vM ⟨[0,1,4],[]⟩ Tryz.func120 follows fun Q hQ=>?_
 refine mE 1 [] h (fun v4=>⟨[(4,bP v4)],[[hT p.l,iP p.forms]]⟩) ?_ fun y e hJ=>?_
 rintro v4 h
 cases h
 exact rt 0 [] hQ
 obtain⟨x,hx,e⟩:=Ad e
 rcases Ai e with⟨hc,e⟩|⟨hc,e⟩
 exact mJ 1 [(4,fi B0 hx),(3,fo hc),(4,fi B0 hx)] (hJ _ (oj e))
 exact mJ 1 [(4,fi B0 hx),(3,fo hc)] (hJ _ (oj e))
theorem Cu (p:Ae)(r:Bool)(h:BD p=some r):CR Tryz.prog 121 [] [hT p.l,iP p.forms] (.ret (bP r)) [hT p.l,iP p.forms]:=by
 unfold BD at h
 refine vM ⟨[0,2,9,10],[]⟩ Tryz.func121 follows fun Q hQ=>?_
 obtain⟨x,hx,h⟩:=Ad h
 refine mE 4 [(5,fi B0 hx)] h (fun v10=>⟨[(0,.ptr 0 0),(2,bP false),(10,bP v10)],[[hT p.l,iP p.forms]]⟩) ?_ fun y e hJ=>?_
 rintro v10 h
 refine cD 0 [] h (fun hc1 h=>?_) fun hc1 h=>?_
 cases h
 exact rt 1 [] hQ
 refine mE 0 [] h (fun v2=>⟨[(2,bP v2)],[[hT p.l,iP p.forms]]⟩) ?_ fun y1 e1 hJ1=>?_
 rintro v2 h
 cases h
 exact rt 0 [] hQ
 obtain⟨i,hi,e1⟩:=Ad e1
 rcases Ai e1 with⟨hc,e1⟩|⟨hc,e1⟩
 exact mJ 1 [(1,fm (Bi _ _ _ hi)),(0,fo hc)] (hJ1 _ (oj e1))
 obtain⟨i1,hi1,e1⟩:=Ad e1
 exact mJ 1 [(1,fm (Bi _ _ _ hi)),(0,fo hc),(1,fm (Bi _ _ _ hi1))] (hJ1 _ (oj e1))
 refine cD 0 [] e (fun hc3 e=>?_) fun hc3 e=>?_
 exact mJ 0 [] (hJ _ (oj e))
 refine cD 1 [] e (fun hc2 e=>?_) fun hc2 e=>?_
 exact mJ 0 [] (hJ _ (oj e))
 exact mJ 1 [] (hJ _ (oj e))
theorem GN (p:Ae)(r:(Ex Au Ae Int))(h:C7 p=some r):Jg r (fun v0 s0=>CR Tryz.prog 146 [] [hT p.l,iP p.forms] (.ret (iP v0)) [hT s0.l,iP s0.forms]) (fun e0 s0=>CR Tryz.prog 146 [] [hT p.l,iP p.forms] (.pan [{ v:=.iface 170 (.agg #[(.int .i64 e0.At),(.int .i64 e0.E)]),recovered:=false }]) [hT s0.l,iP s0.forms]):=by
 unfold C7 at h
 refine Xc ⟨[0,2,10],[]⟩ Tryz.func146 follows fun Q hQ=>?_
 obtain⟨x,hx,h⟩:=Ad h
 refine cD 2 [(5,fi B0 hx)] h (fun hc h=>?_) fun hc h=>?_
 refine yE h (fun f p1 hy h=>?_) fun e p2 hy h=>?_
 obtain⟨n_,hn_,h⟩:=Ad h
 cases h
 exact rt 2 [(1,fm (A7 _ _ (.ok f p1) hy)),(1,fm (AS _ _ hn_))] hQ
 cases h
 exact rp 1 [(1,Ka (A7 _ _ (.pan e p2) hy))] hQ
 obtain⟨n_1,hn_1,h⟩:=Ad h
 cases h
 exact rt 1 [(1,fm (AS _ _ hn_1))] hQ
theorem BT (p:Ae)(depth:Int)(not_:Bool)(r:(Ex Au Ae Unit))(h:BQ p depth not_=some r):Jg r (fun v0 s0=>CR Tryz.prog 170 [iP depth,bP not_] [hT p.l,iP p.forms] (.ret (.tup [])) [hT s0.l,iP s0.forms]) (fun e0 s0=>CR Tryz.prog 170 [iP depth,bP not_] [hT p.l,iP p.forms] (.pan [{ v:=.iface 170 (.agg #[(.int .i64 e0.At),(.int .i64 e0.E)]),recovered:=false }]) [hT s0.l,iP s0.forms]):=by
 unfold BQ at h
 refine Xc ⟨[0,1,2,16,20],[]⟩ Tryz.func170 follows fun Q hQ=>?_
 refine mE 0 [] h (fun v16=>⟨[(0,.ptr 0 0),(1,iP depth),(16,bP v16)],[[hT p.l,iP p.forms]]⟩) ?_ fun y e hJ=>?_
 rintro v16 h
 refine mI 0 [] h (fun (p1,p2)=>⟨[(0,.ptr 0 0),(1,iP depth)],[[hT p1,iP p2]]⟩) ?_ fun y1 e1 h hJ1=>?_
 rintro⟨p1,p2⟩ h
 refine cD 1 [] h (fun hc h=>?_) fun hc h=>?_
 refine yE h (fun f p3 hy2 h=>?_) fun e2 p4 hy2 h=>?_
 cases h
 exact rt 1 [(1,fm (A7 _ _ (.ok f p3) hy2))] hQ
 cases h
 exact rp 1 [(1,Ka (A7 _ _ (.pan e2 p4) hy2))] hQ
 cases h
 exact rt 0 [] hQ
 refine cD 0 [] e1 (fun hc1 e1=>?_) fun hc1 e1=>?_
 refine yE e1 (fun f1 p5 hy3 e1=>?_) fun e3 p6 hy3 e1=>?_
 exact mJ 1 [(1,fm (A7 _ _ (.ok f1 p5) hy3))] (hJ1 _ (oj e1))
 cases e1
 cases h
 exact rp 1 [(1,Ka (A7 _ _ (.pan e3 p6) hy3))] hQ
 exact mJ 0 [] (hJ1 _ (oj e1))
 obtain⟨b,hb,e⟩:=Ad e
 rcases Ai e with⟨hc2,e⟩|⟨hc2,e⟩
 rcases Ai e with⟨hc3,e⟩|⟨hc3,e⟩
 obtain⟨i,hi,e⟩:=Ad e
 exact mJ 1 [(1,fm (Cu _ _ hb)),(1,fo hc2),(1,fo hc3),(1,fm (Bi _ _ _ hi))] (hJ _ (oj e))
 exact mJ 1 [(1,fm (Cu _ _ hb)),(1,fo hc2),(1,fo hc3)] (hJ _ (oj e))
 exact mJ 1 [(1,fm (Cu _ _ hb)),(1,fo hc2)] (hJ _ (oj e))
theorem BS (p:Ae)(s:ByteArray)(r:(Ex Au Ae Unit))(h:Bl p s=some r):Jg r (fun v0 s0=>CR Tryz.prog 148 [tP s] [hT p.l,iP p.forms] (.ret (.tup [])) [hT s0.l,iP s0.forms]) (fun e0 s0=>CR Tryz.prog 148 [tP s] [hT p.l,iP p.forms] (.pan [{ v:=.iface 170 (.agg #[(.int .i64 e0.At),(.int .i64 e0.E)]),recovered:=false }]) [hT s0.l,iP s0.forms]):=by
 unfold Bl at h
 refine Xc ⟨[0,1,7],[]⟩ Tryz.func148 follows fun Q hQ=>?_
 obtain⟨i,hi,h⟩:=Ad h
 refine cD 1 [(2,fm (Bi _ _ _ hi))] h (fun hc h=>?_) fun hc h=>?_
 refine yE h (fun f p1 hy h=>?_) fun e p2 hy h=>?_
 obtain⟨n_,hn_,h⟩:=Ad h
 cases h
 exact rt 2 [(1,fm (A7 _ _ (.ok f p1) hy)),(1,fm (AS _ _ hn_))] hQ
 cases h
 exact rp 1 [(1,Ka (A7 _ _ (.pan e p2) hy))] hQ
 obtain⟨n_1,hn_1,h⟩:=Ad h
 cases h
 exact rt 1 [(1,fm (AS _ _ hn_1))] hQ
theorem Ii (p:(List Ac))(p1:Int)(n_:Int)(q:Int)(q1:Int)(q2:ByteArray)(q3:(List Ab))(q4:Int)(e:Int)(e1:Int)(e2:ByteArray)(e3:(List Ab))(e4:Int)(b:Av)(r:Bool)(h:Cw p p1 n_ q q1 q2 q3 q4 e e1 e2 e3 e4 b=some r):K6 Tryz.prog 200 [.agg [tP b.sign,iP b.op,iP b.level],.ptr 2 0,.ptr 1 0] [[hT p,iP p1],[.ptr 0 0],[iP n_],[iP q,iP q1,tP q2,oX q3,iP q4],[iP e,iP e1,tP e2,hX e3,iP e4]] (.ret (bP r)) [[hT p,iP p1],[.ptr 0 0],[iP n_],[iP q,iP q1,tP q2,oX q3,iP q4],[iP e,iP e1,tP e2,hX e3,iP e4]]:=by
 unfold Cw at h
 refine vS ⟨[0,1,2,3,4],[]⟩ Tryz.func200 follows fun Q hQ=>?_
 refine mE 1 [] h (fun v4=>⟨[(4,bP v4)],[[hT p,iP p1],[.ptr 0 0],[iP n_],[iP q,iP q1,tP q2,oX q3,iP q4],[iP e,iP e1,tP e2,hX e3,iP e4],[tP b.sign,iP b.op,iP b.level]]⟩) ?_ fun y e5 hJ=>?_
 rintro v4 h
 cases h
 exact rt 0 [] hQ
 rcases Ai e5 with⟨hc,e5⟩|⟨hc,e5⟩
 obtain⟨i,hi,e5⟩:=Ad e5
 exact mJ 1 [(4,fo hc),(3,fm (Bi _ _ _ hi))] (hJ _ (oj e5))
 exact mJ 1 [(4,fo hc)] (hJ _ (oj e5))
theorem GX (n:Nat)(p:(List Ac))(p1:Int)(n_:Int)(q:Int)(q1:Int)(q2:ByteArray)(q3:(List Ab))(q4:Int)(e:Int)(e1:Int)(e2:ByteArray)(e3:(List Ab))(e4:Int)(s:(List Av))(r:Int)(h:Cz n p p1 n_ q q1 q2 q3 q4 e e1 e2 e3 e4 s=some r):K6 Tryz.prog 134 [hE s,.fn 200 [.ptr 2 0,.ptr 1 0]] [[hT p,iP p1],[.ptr 0 0],[iP n_],[iP q,iP q1,tP q2,oX q3,iP q4],[iP e,iP e1,tP e2,hX e3,iP e4]] (.ret (iP r)) [[hT p,iP p1],[.ptr 0 0],[iP n_],[iP q,iP q1,tP q2,oX q3,iP q4],[iP e,iP e1,tP e2,hX e3,iP e4]]:=by
 unfold Cz at h
 refine vS ⟨[0,1,4,5,7,8,9,16],[]⟩ Tryz.func134 follows fun Q hQ=>?_
 refine mI 2 [(2,fl Cc s)] h (fun _=>⟨[(4,iP 0)],[[hT p,iP p1],[.ptr 0 0],[iP n_],[iP q,iP q1,tP q2,oX q3,iP q4],[iP e,iP e1,tP e2,hX e3,iP e4]]⟩) ?_ fun y e5 h hJ=>?_
 rintro _ h
 cases h
 exact rt 1 [] hQ
 refine lF 1 [] (A:=Int) (fun n v8=>Bm n s p p1 n_ q q1 q2 q3 q4 e e1 e2 e3 e4 v8) (fun v8=>⟨[(0,hE s),(1,.fn 200 [.ptr 2 0,.ptr 1 0]),(4,iP 0),(7,iP (s.length:Int)),(8,iP v8)],[[hT p,iP p1],[.ptr 0 0],[iP n_],[iP q,iP q1,tP q2,oX q3,iP q4],[iP e,iP e1,tP e2,hX e3,iP e4]]⟩) 0 e5 (fun _=>rfl) ?_
 rintro n v8 e5 ih
 replace e5:=(Bm.eq_2 ..).symm.trans e5
 refine cD 1 [] e5 (fun hc1 e5=>?_) fun hc1 e5=>?_
 obtain⟨x,hx,e5⟩:=Ad e5
 obtain⟨l,hl,e5⟩:=Ad e5
 refine cD 3 [(5,fi Cc hx),(1,fs (Ii _ _ _ _ _ _ _ _ _ _ _ _ _ _ _ hl))] e5 (fun hc e5=>?_) fun hc e5=>?_
 cases e5
 cases h
 exact rt 1 [] hQ
 exact mJ 1 [] (ih _ e5)
 exact mJ 1 [] (hJ _ (oj e5))
theorem JC (n0:Nat)
 (ih_parse_parser_expr:∀ m,m<=n0->∀ (p:Ae) (depth:Int) (r:(Ex Au Ae Ab)),Az m p depth=some r->Jg r (fun v0 s0=>CR Tryz.prog 147 [iP depth] [hT p.l,iP p.forms] (.ret (.agg [iP v0.Op,iP v0.N,tP v0.S,hX v0.Kids,iP v0.At])) [hT s0.l,iP s0.forms]) (fun e0 s0=>CR Tryz.prog 147 [iP depth] [hT p.l,iP p.forms] (.pan [{ v:=.iface 170 (.agg #[(.int .i64 e0.At),(.int .i64 e0.E)]),recovered:=false }]) [hT s0.l,iP s0.forms]))
 (ih_parse_parser_level:∀ m,m<=n0->∀ (p:Ae) (n_:Int) (depth:Int) (r:(Ex Au Ae Ab)),A2 m p n_ depth=some r->Jg r (fun v0 s0=>CR Tryz.prog 171 [iP n_,iP depth] [hT p.l,iP p.forms] (.ret (.agg [iP v0.Op,iP v0.N,tP v0.S,hX v0.Kids,iP v0.At])) [hT s0.l,iP s0.forms]) (fun e0 s0=>CR Tryz.prog 171 [iP n_,iP depth] [hT p.l,iP p.forms] (.pan [{ v:=.iface 170 (.agg #[(.int .i64 e0.At),(.int .i64 e0.E)]),recovered:=false }]) [hT s0.l,iP s0.forms]))
 (ih_parse_parser_neg:∀ m,m<=n0->∀ (p:Ae) (depth:Int) (r:(Ex Au Ae Ab)),AV m p depth=some r->Jg r (fun v0 s0=>CR Tryz.prog 199 [iP depth] [hT p.l,iP p.forms] (.ret (.agg [iP v0.Op,iP v0.N,tP v0.S,hX v0.Kids,iP v0.At])) [hT s0.l,iP s0.forms]) (fun e0 s0=>CR Tryz.prog 199 [iP depth] [hT p.l,iP p.forms] (.pan [{ v:=.iface 170 (.agg #[(.int .i64 e0.At),(.int .i64 e0.E)]),recovered:=false }]) [hT s0.l,iP s0.forms]))
 (ih_parse_parser_atom:∀ m,m<=n0->∀ (p:Ae) (depth:Int) (r:(Ex Au Ae Ab)),AT m p depth=some r->Jg r (fun v0 s0=>CR Tryz.prog 223 [iP depth] [hT p.l,iP p.forms] (.ret (.agg [iP v0.Op,iP v0.N,tP v0.S,hX v0.Kids,iP v0.At])) [hT s0.l,iP s0.forms]) (fun e0 s0=>CR Tryz.prog 223 [iP depth] [hT p.l,iP p.forms] (.pan [{ v:=.iface 170 (.agg #[(.int .i64 e0.At),(.int .i64 e0.E)]),recovered:=false }]) [hT s0.l,iP s0.forms]))
 (n:Nat) (hn:n<=n0) (p:Ae) (depth:Int) (r:(Ex Au Ae Ab)) (h:Az (n+1) p depth=some r):Jg r (fun v0 s0=>CR Tryz.prog 147 [iP depth] [hT p.l,iP p.forms] (.ret (.agg [iP v0.Op,iP v0.N,tP v0.S,hX v0.Kids,iP v0.At])) [hT s0.l,iP s0.forms]) (fun e0 s0=>CR Tryz.prog 147 [iP depth] [hT p.l,iP p.forms] (.pan [{ v:=.iface 170 (.agg #[(.int .i64 e0.At),(.int .i64 e0.E)]),recovered:=false }]) [hT s0.l,iP s0.forms]):=by
 replace h:=(Az.eq_2 ..).symm.trans h
 refine Xc ⟨[0,1,4,5,6,15],[(8,[9999,1,0,0,1,2,3,4,5,6,7,8,9,10])]⟩ Tryz.func147 follows fun Q hQ=>?_
 refine wl 1 [] ?_
 refine yE h (fun d p1 hy h=>?_) fun e p2 hy h=>?_
 refine wl 1 [(2,fm (BT _ _ _ (.ok d p1) hy))] ?_
 refine yE h (fun e1 p3 hy1 h=>?_) fun e2 p4 hy1 h=>?_
 obtain⟨i,hi,h⟩:=Ad h
 refine cD 2 [(2,fm (ih_parse_parser_level _ hn _ _ _ (.ok e1 p3) hy1)),(3,fm (Bi _ _ _ hi))] h (fun hc h=>?_) fun hc h=>?_
 cases h
 exact rt 1 [] hQ
 obtain⟨n_,hn_,h⟩:=Ad h
 refine wl 1 [(1,fm (AS _ _ hn_))] ?_
 refine yE h (fun a_ p5 hy2 h=>?_) fun e3 p6 hy2 h=>?_
 refine wl 1 [(3,fm (ih_parse_parser_expr _ hn _ _ (.ok a_ p5) hy2))] ?_
 refine yE h (fun n_1 p7 hy3 h=>?_) fun e4 p8 hy3 h=>?_
 refine wl 1 [(1,fm (BS _ _ (.ok n_1 p7) hy3))] ?_
 refine yE h (fun e5 p9 hy4 h=>?_) fun e6 p10 hy4 h=>?_
 obtain⟨l,hl,h⟩:=Ad h
 cases h
 exact rt 1 [(7,fm (ih_parse_parser_expr _ hn _ _ (.ok e5 p9) hy4)),(0,fB AE hl)] hQ
 cases h
 exact rp 1 [(7,Ka (ih_parse_parser_expr _ hn _ _ (.pan e6 p10) hy4))] hQ
 cases h
 exact rp 1 [(1,Ka (BS _ _ (.pan e4 p8) hy3))] hQ
 cases h
 exact rp 1 [(3,Ka (ih_parse_parser_expr _ hn _ _ (.pan e3 p6) hy2))] hQ
 cases h
 exact rp 1 [(2,Ka (ih_parse_parser_level _ hn _ _ _ (.pan e2 p4) hy1))] hQ
 cases h
 exact rp 1 [(2,Ka (BT _ _ _ (.pan e p2) hy))] hQ
theorem J2 (n0:Nat)
 (ih_parse_parser_expr:∀ m,m<=n0->∀ (p:Ae) (depth:Int) (r:(Ex Au Ae Ab)),Az m p depth=some r->Jg r (fun v0 s0=>CR Tryz.prog 147 [iP depth] [hT p.l,iP p.forms] (.ret (.agg [iP v0.Op,iP v0.N,tP v0.S,hX v0.Kids,iP v0.At])) [hT s0.l,iP s0.forms]) (fun e0 s0=>CR Tryz.prog 147 [iP depth] [hT p.l,iP p.forms] (.pan [{ v:=.iface 170 (.agg #[(.int .i64 e0.At),(.int .i64 e0.E)]),recovered:=false }]) [hT s0.l,iP s0.forms]))
 (ih_parse_parser_level:∀ m,m<=n0->∀ (p:Ae) (n_:Int) (depth:Int) (r:(Ex Au Ae Ab)),A2 m p n_ depth=some r->Jg r (fun v0 s0=>CR Tryz.prog 171 [iP n_,iP depth] [hT p.l,iP p.forms] (.ret (.agg [iP v0.Op,iP v0.N,tP v0.S,hX v0.Kids,iP v0.At])) [hT s0.l,iP s0.forms]) (fun e0 s0=>CR Tryz.prog 171 [iP n_,iP depth] [hT p.l,iP p.forms] (.pan [{ v:=.iface 170 (.agg #[(.int .i64 e0.At),(.int .i64 e0.E)]),recovered:=false }]) [hT s0.l,iP s0.forms]))
 (ih_parse_parser_neg:∀ m,m<=n0->∀ (p:Ae) (depth:Int) (r:(Ex Au Ae Ab)),AV m p depth=some r->Jg r (fun v0 s0=>CR Tryz.prog 199 [iP depth] [hT p.l,iP p.forms] (.ret (.agg [iP v0.Op,iP v0.N,tP v0.S,hX v0.Kids,iP v0.At])) [hT s0.l,iP s0.forms]) (fun e0 s0=>CR Tryz.prog 199 [iP depth] [hT p.l,iP p.forms] (.pan [{ v:=.iface 170 (.agg #[(.int .i64 e0.At),(.int .i64 e0.E)]),recovered:=false }]) [hT s0.l,iP s0.forms]))
 (ih_parse_parser_atom:∀ m,m<=n0->∀ (p:Ae) (depth:Int) (r:(Ex Au Ae Ab)),AT m p depth=some r->Jg r (fun v0 s0=>CR Tryz.prog 223 [iP depth] [hT p.l,iP p.forms] (.ret (.agg [iP v0.Op,iP v0.N,tP v0.S,hX v0.Kids,iP v0.At])) [hT s0.l,iP s0.forms]) (fun e0 s0=>CR Tryz.prog 223 [iP depth] [hT p.l,iP p.forms] (.pan [{ v:=.iface 170 (.agg #[(.int .i64 e0.At),(.int .i64 e0.E)]),recovered:=false }]) [hT s0.l,iP s0.forms]))
 (n:Nat) (hn:n<=n0) (p:Ae) (n_:Int) (depth:Int) (r:(Ex Au Ae Ab)) (h:A2 (n+1) p n_ depth=some r):Jg r (fun v0 s0=>CR Tryz.prog 171 [iP n_,iP depth] [hT p.l,iP p.forms] (.ret (.agg [iP v0.Op,iP v0.N,tP v0.S,hX v0.Kids,iP v0.At])) [hT s0.l,iP s0.forms]) (fun e0 s0=>CR Tryz.prog 171 [iP n_,iP depth] [hT p.l,iP p.forms] (.pan [{ v:=.iface 170 (.agg #[(.int .i64 e0.At),(.int .i64 e0.E)]),recovered:=false }]) [hT s0.l,iP s0.forms]):=by
 replace h:=(A2.eq_2 ..).symm.trans h
 refine Xc ⟨[0,1,2,3,4,6,7,8,9,11,13,31,44,64],[(14,[9999,1,0,1,5,6,7,8,9,10,11,0,2,3,4,12,13,14,15])]⟩ Tryz.func171 follows fun Q hQ=>?_
 refine mI 2 [] h (fun n_1=>⟨[(2,iP depth),(3,.ptr 1 0),(4,.ptr 2 0),(6,.ptr 3 0)],[[hT p.l,iP p.forms],[.ptr 0 0],[iP n_1],[iP 0,iP 0,tP ⟨#[]⟩,.sl [] .own,iP 0]]⟩) ?_ fun y e h hJ=>?_
 rintro n_1 h
 refine cD 1 [] h (fun hc2 h=>?_) fun hc2 h=>?_
 refine yE h (fun n_2 p1 hy1 h=>?_) fun e1 p2 hy1 h=>?_
 cases h
 exact rt 1 [(2,fm (ih_parse_parser_neg _ hn _ _ (.ok n_2 p1) hy1))] hQ
 cases h
 exact rp 1 [(2,Ka (ih_parse_parser_neg _ hn _ _ (.pan e1 p2) hy1))] hQ
 refine yE h (fun e2 p3 hy2 h=>?_) fun e3 p4 hy2 h=>?_
 refine lR 2 [(4,fm (ih_parse_parser_level _ hn _ _ _ (.ok e2 p3) hy2))] (A:=((List Ac)×Int×Int×Int×ByteArray×(List Ab))) (fun n (p5,p6,e4,e5,e6,e7)=>Bk n n_1 e2 depth p5 p6 e4 e5 e6 e7) (fun (p5,p6,e4,e5,e6,e7)=>⟨[(2,iP depth),(3,.ptr 1 0),(4,.ptr 2 0),(6,.ptr 3 0),(8,.ptr 4 0)],[[hT p5,iP p6],[.ptr 0 0],[iP n_1],[iP 0,iP 0,tP ⟨#[]⟩,.sl [] .own,iP 0],[iP e4,iP e5,tP e6,hX e7,iP e2.At]]⟩) (p3.l,p3.forms,e2.Op,e2.N,e2.S,e2.Kids) hn h (fun _=>rfl) ?_
 rintro n ⟨p5,p6,e4,e5,e6,e7⟩ hn h ih
 replace h:=(Bk.eq_2 ..).symm.trans h
 obtain⟨o_,ho_,h⟩:=Ad h
 obtain⟨k,hk,h⟩:=Ad h
 refine cD 3 [(0,fk (Dj _ ho_)),(1,fs (GX _ _ _ _ _ _ _ _ _ _ _ _ _ _ _ _ hk))] h (fun hc1 h=>?_) fun hc1 h=>?_
 cases h
 exact rt 1 [] hQ
 obtain⟨n_3,hn_3,h⟩:=Ad h
 obtain⟨o_1,ho_1,h⟩:=Ad h
 obtain⟨x,hx,h⟩:=Ad h
 refine wl 1 [(1,fm (AS _ _ hn_3))] ?_
 refine yE h (fun l p7 hy3 h=>?_) fun e8 p8 hy3 h=>?_
 obtain⟨l1,hl1,h⟩:=Ad h
 refine cD 2 [(8,fk (Dj _ ho_1)),(0,fi Cc hx),(2,fm (ih_parse_parser_level _ hn _ _ _ (.ok l p7) hy3)),(0,fB AE hl1)] h (fun hc h=>?_) fun hc h=>?_
 cases h
 exact rt 1 [] hQ
 exact mJ 0 [] (ih (_,_,_,_,_,_) h)
 cases h
 exact rp 1 [(8,fk (Dj _ ho_1)),(0,fi Cc hx),(2,Ka (ih_parse_parser_level _ hn _ _ _ (.pan e8 p8) hy3))] hQ
 cases h
 exact rp 1 [(4,Ka (ih_parse_parser_level _ hn _ _ _ (.pan e3 p4) hy2))] hQ
 refine cD 0 [] e (fun hc4 e=>?_) fun hc4 e=>?_
 obtain⟨i,hi,e⟩:=Ad e
 refine cD 1 [(1,fm (Bi _ _ _ hi))] e (fun hc3 e=>?_) fun hc3 e=>?_
 obtain⟨n_4,hn_4,e⟩:=Ad e
 refine wl 1 [(1,fm (AS _ _ hn_4))] ?_
 refine yE e (fun d p9 hy4 e=>?_) fun e9 p10 hy4 e=>?_
 refine wl 1 [(3,fm (BT _ _ _ (.ok d p9) hy4))] ?_
 refine yE e (fun l2 p11 hy5 e=>?_) fun e10 p12 hy5 e=>?_
 obtain⟨l3,hl3,e⟩:=Ad e
 cases e
 cases h
 exact rt 1 [(4,fm (ih_parse_parser_level _ hn _ _ _ (.ok l2 p11) hy5)),(0,fB AE hl3)] hQ
 cases e
 cases h
 exact rp 1 [(4,Ka (ih_parse_parser_level _ hn _ _ _ (.pan e10 p12) hy5))] hQ
 cases e
 cases h
 exact rp 1 [(3,Ka (BT _ _ _ (.pan e9 p10) hy4))] hQ
 exact mJ 1 [] (hJ _ (oj e))
 exact mJ 0 [] (hJ _ (oj e))
theorem K3 (n0:Nat)
 (ih_parse_parser_expr:∀ m,m<=n0->∀ (p:Ae) (depth:Int) (r:(Ex Au Ae Ab)),Az m p depth=some r->Jg r (fun v0 s0=>CR Tryz.prog 147 [iP depth] [hT p.l,iP p.forms] (.ret (.agg [iP v0.Op,iP v0.N,tP v0.S,hX v0.Kids,iP v0.At])) [hT s0.l,iP s0.forms]) (fun e0 s0=>CR Tryz.prog 147 [iP depth] [hT p.l,iP p.forms] (.pan [{ v:=.iface 170 (.agg #[(.int .i64 e0.At),(.int .i64 e0.E)]),recovered:=false }]) [hT s0.l,iP s0.forms]))
 (ih_parse_parser_level:∀ m,m<=n0->∀ (p:Ae) (n_:Int) (depth:Int) (r:(Ex Au Ae Ab)),A2 m p n_ depth=some r->Jg r (fun v0 s0=>CR Tryz.prog 171 [iP n_,iP depth] [hT p.l,iP p.forms] (.ret (.agg [iP v0.Op,iP v0.N,tP v0.S,hX v0.Kids,iP v0.At])) [hT s0.l,iP s0.forms]) (fun e0 s0=>CR Tryz.prog 171 [iP n_,iP depth] [hT p.l,iP p.forms] (.pan [{ v:=.iface 170 (.agg #[(.int .i64 e0.At),(.int .i64 e0.E)]),recovered:=false }]) [hT s0.l,iP s0.forms]))
 (ih_parse_parser_neg:∀ m,m<=n0->∀ (p:Ae) (depth:Int) (r:(Ex Au Ae Ab)),AV m p depth=some r->Jg r (fun v0 s0=>CR Tryz.prog 199 [iP depth] [hT p.l,iP p.forms] (.ret (.agg [iP v0.Op,iP v0.N,tP v0.S,hX v0.Kids,iP v0.At])) [hT s0.l,iP s0.forms]) (fun e0 s0=>CR Tryz.prog 199 [iP depth] [hT p.l,iP p.forms] (.pan [{ v:=.iface 170 (.agg #[(.int .i64 e0.At),(.int .i64 e0.E)]),recovered:=false }]) [hT s0.l,iP s0.forms]))
 (ih_parse_parser_atom:∀ m,m<=n0->∀ (p:Ae) (depth:Int) (r:(Ex Au Ae Ab)),AT m p depth=some r->Jg r (fun v0 s0=>CR Tryz.prog 223 [iP depth] [hT p.l,iP p.forms] (.ret (.agg [iP v0.Op,iP v0.N,tP v0.S,hX v0.Kids,iP v0.At])) [hT s0.l,iP s0.forms]) (fun e0 s0=>CR Tryz.prog 223 [iP depth] [hT p.l,iP p.forms] (.pan [{ v:=.iface 170 (.agg #[(.int .i64 e0.At),(.int .i64 e0.E)]),recovered:=false }]) [hT s0.l,iP s0.forms]))
 (n:Nat) (hn:n<=n0) (p:Ae) (depth:Int) (r:(Ex Au Ae Ab)) (h:AV (n+1) p depth=some r):Jg r (fun v0 s0=>CR Tryz.prog 199 [iP depth] [hT p.l,iP p.forms] (.ret (.agg [iP v0.Op,iP v0.N,tP v0.S,hX v0.Kids,iP v0.At])) [hT s0.l,iP s0.forms]) (fun e0 s0=>CR Tryz.prog 199 [iP depth] [hT p.l,iP p.forms] (.pan [{ v:=.iface 170 (.agg #[(.int .i64 e0.At),(.int .i64 e0.E)]),recovered:=false }]) [hT s0.l,iP s0.forms]):=by
 replace h:=(AV.eq_2 ..).symm.trans h
 refine Xc ⟨[0,1,4,5,8],[]⟩ Tryz.func199 follows fun Q hQ=>?_
 obtain⟨i,hi,h⟩:=Ad h
 refine cD 2 [(2,fm (Bi _ _ _ hi))] h (fun hc h=>?_) fun hc h=>?_
 refine yE h (fun a_ p1 hy h=>?_) fun e p2 hy h=>?_
 cases h
 exact rt 1 [(2,fm (ih_parse_parser_atom _ hn _ _ (.ok a_ p1) hy))] hQ
 cases h
 exact rp 1 [(2,Ka (ih_parse_parser_atom _ hn _ _ (.pan e p2) hy))] hQ
 obtain⟨n_,hn_,h⟩:=Ad h
 refine wl 1 [(1,fm (AS _ _ hn_))] ?_
 refine yE h (fun d p3 hy1 h=>?_) fun e1 p4 hy1 h=>?_
 refine wl 1 [(3,fm (BT _ _ _ (.ok d p3) hy1))] ?_
 refine yE h (fun n_1 p5 hy2 h=>?_) fun e2 p6 hy2 h=>?_
 obtain⟨l,hl,h⟩:=Ad h
 cases h
 exact rt 1 [(4,fm (ih_parse_parser_neg _ hn _ _ (.ok n_1 p5) hy2)),(0,fB AE hl)] hQ
 cases h
 exact rp 1 [(4,Ka (ih_parse_parser_neg _ hn _ _ (.pan e2 p6) hy2))] hQ
 cases h
 exact rp 1 [(3,Ka (BT _ _ _ (.pan e1 p4) hy1))] hQ
theorem JD (n0:Nat)
 (ih_parse_parser_expr:∀ m,m<=n0->∀ (p:Ae) (depth:Int) (r:(Ex Au Ae Ab)),Az m p depth=some r->Jg r (fun v0 s0=>CR Tryz.prog 147 [iP depth] [hT p.l,iP p.forms] (.ret (.agg [iP v0.Op,iP v0.N,tP v0.S,hX v0.Kids,iP v0.At])) [hT s0.l,iP s0.forms]) (fun e0 s0=>CR Tryz.prog 147 [iP depth] [hT p.l,iP p.forms] (.pan [{ v:=.iface 170 (.agg #[(.int .i64 e0.At),(.int .i64 e0.E)]),recovered:=false }]) [hT s0.l,iP s0.forms]))
 (ih_parse_parser_level:∀ m,m<=n0->∀ (p:Ae) (n_:Int) (depth:Int) (r:(Ex Au Ae Ab)),A2 m p n_ depth=some r->Jg r (fun v0 s0=>CR Tryz.prog 171 [iP n_,iP depth] [hT p.l,iP p.forms] (.ret (.agg [iP v0.Op,iP v0.N,tP v0.S,hX v0.Kids,iP v0.At])) [hT s0.l,iP s0.forms]) (fun e0 s0=>CR Tryz.prog 171 [iP n_,iP depth] [hT p.l,iP p.forms] (.pan [{ v:=.iface 170 (.agg #[(.int .i64 e0.At),(.int .i64 e0.E)]),recovered:=false }]) [hT s0.l,iP s0.forms]))
 (ih_parse_parser_neg:∀ m,m<=n0->∀ (p:Ae) (depth:Int) (r:(Ex Au Ae Ab)),AV m p depth=some r->Jg r (fun v0 s0=>CR Tryz.prog 199 [iP depth] [hT p.l,iP p.forms] (.ret (.agg [iP v0.Op,iP v0.N,tP v0.S,hX v0.Kids,iP v0.At])) [hT s0.l,iP s0.forms]) (fun e0 s0=>CR Tryz.prog 199 [iP depth] [hT p.l,iP p.forms] (.pan [{ v:=.iface 170 (.agg #[(.int .i64 e0.At),(.int .i64 e0.E)]),recovered:=false }]) [hT s0.l,iP s0.forms]))
 (ih_parse_parser_atom:∀ m,m<=n0->∀ (p:Ae) (depth:Int) (r:(Ex Au Ae Ab)),AT m p depth=some r->Jg r (fun v0 s0=>CR Tryz.prog 223 [iP depth] [hT p.l,iP p.forms] (.ret (.agg [iP v0.Op,iP v0.N,tP v0.S,hX v0.Kids,iP v0.At])) [hT s0.l,iP s0.forms]) (fun e0 s0=>CR Tryz.prog 223 [iP depth] [hT p.l,iP p.forms] (.pan [{ v:=.iface 170 (.agg #[(.int .i64 e0.At),(.int .i64 e0.E)]),recovered:=false }]) [hT s0.l,iP s0.forms]))
 (n:Nat) (hn:n<=n0) (p:Ae) (depth:Int) (r:(Ex Au Ae Ab)) (h:AT (n+1) p depth=some r):Jg r (fun v0 s0=>CR Tryz.prog 223 [iP depth] [hT p.l,iP p.forms] (.ret (.agg [iP v0.Op,iP v0.N,tP v0.S,hX v0.Kids,iP v0.At])) [hT s0.l,iP s0.forms]) (fun e0 s0=>CR Tryz.prog 223 [iP depth] [hT p.l,iP p.forms] (.pan [{ v:=.iface 170 (.agg #[(.int .i64 e0.At),(.int .i64 e0.E)]),recovered:=false }]) [hT s0.l,iP s0.forms]):=by
 replace h:=(AT.eq_2 ..).symm.trans h
 refine Xc ⟨[0,1,4,5,6,9,22,29,32,35,40,46,50,56],[(23,[9999,1,0,0,1,2,3,4,5,6,7,8,9])]⟩ Tryz.func223 follows fun Q hQ=>?_
 obtain⟨b,hb,h⟩:=Ad h
 refine mI 2 [(2,fm (Cu _ _ hb))] h (fun (p1,p2)=>⟨[(0,.ptr 0 0),(1,iP depth),(4,.ptr 1 0)],[[hT p1,iP p2],[iP 0,iP 0,tP ⟨#[]⟩,.sl [] .own,iP 0]]⟩) ?_ fun y e h hJ=>?_
 rintro⟨p1,p2⟩ h
 obtain⟨t,ht,h⟩:=Ad h
 refine cD 5 [(1,fm (AS _ _ ht))] h (fun hc6 h=>?_) fun hc6 h=>?_
 cases h
 exact rt 2 [] hQ
 refine cD 1 [] h (fun hc5 h=>?_) fun hc5 h=>?_
 cases h
 exact rt 2 [] hQ
 refine cD 1 [] h (fun hc4 h=>?_) fun hc4 h=>?_
 obtain⟨i,hi,h⟩:=Ad h
 refine cD 2 [(3,fm (Bi _ _ _ hi))] h (fun hc3 h=>?_) fun hc3 h=>?_
 cases h
 exact rt 2 [] hQ
 obtain⟨n_,hn_,h⟩:=Ad h
 refine mI 2 [(3,fm (AS _ _ hn_))] h (fun (p3,p4,e1)=>⟨[(0,.ptr 0 0),(4,.ptr 1 0),(6,.ptr 3 0)],[[hT p3,iP p4],[iP 0,iP 0,tP ⟨#[]⟩,.sl [] .own,iP 0],[iP t.1.Kind,iP t.1.At,tP t.1.S,iP t.1.N],[iP 4,iP t.1.N,tP t.1.S,oX e1,iP t.1.At]]⟩) ?_ fun y1 e2 h hJ1=>?_
 rintro⟨p3,p4,e1⟩ h
 obtain⟨n_1,hn_1,h⟩:=Ad h
 cases h
 exact rt 2 [(1,fm (AS _ _ hn_1))] hQ
 refine lR 1 [] (A:=((List Ac)×Int×(List Ab))) (fun n (p5,p6,e3)=>AO n depth p5 p6 e3) (fun (p5,p6,e3)=>⟨[(0,.ptr 0 0),(1,iP depth),(4,.ptr 1 0),(6,.ptr 3 0)],[[hT p5,iP p6],[iP 0,iP 0,tP ⟨#[]⟩,.sl [] .own,iP 0],[iP t.1.Kind,iP t.1.At,tP t.1.S,iP t.1.N],[iP 4,iP t.1.N,tP t.1.S,oX e3,iP t.1.At]]⟩) (n_.2.l,n_.2.forms,[]) hn e2 (fun _=>rfl) ?_
 rintro n ⟨p5,p6,e3⟩ hn e2 ih
 replace e2:=(AO.eq_2 ..).symm.trans e2
 obtain⟨i1,hi1,e2⟩:=Ad e2
 refine cD 1 [(1,fm (Bi _ _ _ hi1))] e2 (fun hc2 e2=>?_) fun hc2 e2=>?_
 refine mI 2 [(2,fl AE e3)] e2 (fun (p7,p8)=>⟨[(0,.ptr 0 0),(1,iP depth),(4,.ptr 1 0),(6,.ptr 3 0)],[[hT p7,iP p8],[iP 0,iP 0,tP ⟨#[]⟩,.sl [] .own,iP 0],[iP t.1.Kind,iP t.1.At,tP t.1.S,iP t.1.N],[iP 4,iP t.1.N,tP t.1.S,oX e3,iP t.1.At]]⟩) ?_ fun y2 e4 e2 hJ2=>?_
 rintro⟨p7,p8⟩ e2
 refine cD 1 [(2,fl AE e3)] e2 (fun hc e2=>?_) fun hc e2=>?_
 refine yE e2 (fun d p9 hy3 e2=>?_) fun e5 p10 hy3 e2=>?_
 refine wl 1 [(1,fm (BT _ _ _ (.ok d p9) hy3))] ?_
 refine yE e2 (fun f p11 hy4 e2=>?_) fun e6 p12 hy4 e2=>?_
 refine wl 1 [(1,fm (A7 _ _ (.ok f p11) hy4))] ?_
 refine yE e2 (fun e7 p13 hy5 e2=>?_) fun e8 p14 hy5 e2=>?_
 obtain⟨l,hl,e2⟩:=Ad e2
 obtain⟨l1,hl1,e2⟩:=Ad e2
 exact mJ 1 [(5,fm (ih_parse_parser_expr _ hn _ _ (.ok e7 p13) hy5)),(0,fB AE hl),(0,fa AE hl1)] (ih (_,_,_) e2)
 cases e2
 cases h
 exact rp 1 [(5,Ka (ih_parse_parser_expr _ hn _ _ (.pan e8 p14) hy5))] hQ
 cases e2
 cases h
 exact rp 1 [(1,Ka (A7 _ _ (.pan e6 p12) hy4))] hQ
 cases e2
 cases h
 exact rp 1 [(1,Ka (BT _ _ _ (.pan e5 p10) hy3))] hQ
 refine yE e2 (fun e9 p15 hy6 e2=>?_) fun e10 p16 hy6 e2=>?_
 obtain⟨l2,hl2,e2⟩:=Ad e2
 obtain⟨l3,hl3,e2⟩:=Ad e2
 exact mJ 1 [(5,fm (ih_parse_parser_expr _ hn _ _ (.ok e9 p15) hy6)),(0,fB AE hl2),(0,fa AE hl3)] (ih (_,_,_) e2)
 cases e2
 cases h
 exact rp 1 [(5,Ka (ih_parse_parser_expr _ hn _ _ (.pan e10 p16) hy6))] hQ
 refine cD 0 [] e4 (fun hc1 e4=>?_) fun hc1 e4=>?_
 refine yE e4 (fun n_2 p17 hy7 e4=>?_) fun e11 p18 hy7 e4=>?_
 exact mJ 1 [(1,fm (BS _ _ (.ok n_2 p17) hy7))] (hJ2 _ (oj e4))
 cases e4
 cases e2
 cases h
 exact rp 1 [(1,Ka (BS _ _ (.pan e11 p18) hy7))] hQ
 exact mJ 0 [] (hJ2 _ (oj e4))
 exact mJ 1 [] (hJ1 _ (oj e2))
 refine yE h (fun e12 p19 hy8 h=>?_) fun e13 p20 hy8 h=>?_
 refine wl 1 [(3,fm (ih_parse_parser_expr _ hn _ _ (.ok e12 p19) hy8))] ?_
 refine yE h (fun n_3 p21 hy9 h=>?_) fun e14 p22 hy9 h=>?_
 cases h
 exact rt 2 [(1,fm (BS _ _ (.ok n_3 p21) hy9))] hQ
 cases h
 exact rp 1 [(1,Ka (BS _ _ (.pan e14 p22) hy9))] hQ
 cases h
 exact rp 1 [(3,Ka (ih_parse_parser_expr _ hn _ _ (.pan e13 p20) hy8))] hQ
 refine cD 0 [] e (fun hc7 e=>?_) fun hc7 e=>?_
 refine yE e (fun f1 p23 hy10 e=>?_) fun e15 p24 hy10 e=>?_
 exact mJ 1 [(1,fm (A7 _ _ (.ok f1 p23) hy10))] (hJ _ (oj e))
 cases e
 cases h
 exact rp 1 [(1,Ka (A7 _ _ (.pan e15 p24) hy10))] hQ
 exact mJ 0 [] (hJ _ (oj e))
theorem Gq:∀ n:Nat,(∀ m,m<=n->∀ (p:Ae) (depth:Int) (r:(Ex Au Ae Ab)),Az m p depth=some r->Jg r (fun v0 s0=>CR Tryz.prog 147 [iP depth] [hT p.l,iP p.forms] (.ret (.agg [iP v0.Op,iP v0.N,tP v0.S,hX v0.Kids,iP v0.At])) [hT s0.l,iP s0.forms]) (fun e0 s0=>CR Tryz.prog 147 [iP depth] [hT p.l,iP p.forms] (.pan [{ v:=.iface 170 (.agg #[(.int .i64 e0.At),(.int .i64 e0.E)]),recovered:=false }]) [hT s0.l,iP s0.forms]))/\(∀ m,m<=n->∀ (p:Ae) (n_:Int) (depth:Int) (r:(Ex Au Ae Ab)),A2 m p n_ depth=some r->Jg r (fun v0 s0=>CR Tryz.prog 171 [iP n_,iP depth] [hT p.l,iP p.forms] (.ret (.agg [iP v0.Op,iP v0.N,tP v0.S,hX v0.Kids,iP v0.At])) [hT s0.l,iP s0.forms]) (fun e0 s0=>CR Tryz.prog 171 [iP n_,iP depth] [hT p.l,iP p.forms] (.pan [{ v:=.iface 170 (.agg #[(.int .i64 e0.At),(.int .i64 e0.E)]),recovered:=false }]) [hT s0.l,iP s0.forms]))/\(∀ m,m<=n->∀ (p:Ae) (depth:Int) (r:(Ex Au Ae Ab)),AV m p depth=some r->Jg r (fun v0 s0=>CR Tryz.prog 199 [iP depth] [hT p.l,iP p.forms] (.ret (.agg [iP v0.Op,iP v0.N,tP v0.S,hX v0.Kids,iP v0.At])) [hT s0.l,iP s0.forms]) (fun e0 s0=>CR Tryz.prog 199 [iP depth] [hT p.l,iP p.forms] (.pan [{ v:=.iface 170 (.agg #[(.int .i64 e0.At),(.int .i64 e0.E)]),recovered:=false }]) [hT s0.l,iP s0.forms]))/\(∀ m,m<=n->∀ (p:Ae) (depth:Int) (r:(Ex Au Ae Ab)),AT m p depth=some r->Jg r (fun v0 s0=>CR Tryz.prog 223 [iP depth] [hT p.l,iP p.forms] (.ret (.agg [iP v0.Op,iP v0.N,tP v0.S,hX v0.Kids,iP v0.At])) [hT s0.l,iP s0.forms]) (fun e0 s0=>CR Tryz.prog 223 [iP depth] [hT p.l,iP p.forms] (.pan [{ v:=.iface 170 (.agg #[(.int .i64 e0.At),(.int .i64 e0.E)]),recovered:=false }]) [hT s0.l,iP s0.forms]))
 |0=>⟨(fun m hm p depth r h=>by
  obtain rfl:m=0:=by omega
  exact absurd h (by simp [Az])),
  (fun m hm p n_ depth r h=>by
   obtain rfl:m=0:=by omega
   exact absurd h (by simp [A2])),
  (fun m hm p depth r h=>by
   obtain rfl:m=0:=by omega
   exact absurd h (by simp [AV])),
  (fun m hm p depth r h=>by
   obtain rfl:m=0:=by omega
   exact absurd h (by simp [AT]))⟩
 |n+1=>by
  have ih:=Gq n
  exact⟨fun m hm p depth r h=>by
   cases m with
   |zero=>exact absurd h (by simp [Az])
   |succ m=>exact JC n (ih.1) (ih.2.1) (ih.2.2.1) (ih.2.2.2) m (by omega) p depth _ h,
  fun m hm p n_ depth r h=>by
   cases m with
   |zero=>exact absurd h (by simp [A2])
   |succ m=>exact J2 n (ih.1) (ih.2.1) (ih.2.2.1) (ih.2.2.2) m (by omega) p n_ depth _ h,
  fun m hm p depth r h=>by
   cases m with
   |zero=>exact absurd h (by simp [AV])
   |succ m=>exact K3 n (ih.1) (ih.2.1) (ih.2.2.1) (ih.2.2.2) m (by omega) p depth _ h,
  fun m hm p depth r h=>by
   cases m with
   |zero=>exact absurd h (by simp [AT])
   |succ m=>exact JD n (ih.1) (ih.2.1) (ih.2.2.1) (ih.2.2.2) m (by omega) p depth _ h⟩
theorem H2 (n:Nat)(p:Ae)(depth:Int)(r:(Ex Au Ae Ab))(h:Az n p depth=some r):Jg r (fun v0 s0=>CR Tryz.prog 147 [iP depth] [hT p.l,iP p.forms] (.ret (.agg [iP v0.Op,iP v0.N,tP v0.S,hX v0.Kids,iP v0.At])) [hT s0.l,iP s0.forms]) (fun e0 s0=>CR Tryz.prog 147 [iP depth] [hT p.l,iP p.forms] (.pan [{ v:=.iface 170 (.agg #[(.int .i64 e0.At),(.int .i64 e0.E)]),recovered:=false }]) [hT s0.l,iP s0.forms]) :=
 (Gq n).1 n (Nat.le_refl _) p depth r h
theorem EL (n:Nat)(p:Ae)(r:(Ex Au Ae Aw))(h:Cx n p=some r):Jg r (fun v0 s0=>CR Tryz.prog 122 [] [hT p.l,iP p.forms] (.ret (.agg [iP v0.Kind,iP v0.N,tP v0.S,iP v0.E.Op,iP v0.E.N,tP v0.E.S,hX v0.E.Kids,iP v0.E.At,iP v0.At])) [hT s0.l,iP s0.forms]) (fun e0 s0=>CR Tryz.prog 122 [] [hT p.l,iP p.forms] (.pan [{ v:=.iface 170 (.agg #[(.int .i64 e0.At),(.int .i64 e0.E)]),recovered:=false }]) [hT s0.l,iP s0.forms]):=by
 unfold Cx at h
 refine Xc ⟨[0,2,3,4,15,18,19,26,29,37,40,43],[]⟩ Tryz.func122 follows fun Q hQ=>?_
 obtain⟨t,ht,h⟩:=Ad h
 refine cD 6 [(2,fm (AS _ _ ht))] h (fun hc5 h=>?_) fun hc5 h=>?_
 cases h
 exact rt 2 [] hQ
 refine cD 1 [] h (fun hc4 h=>?_) fun hc4 h=>?_
 cases h
 exact rt 2 [] hQ
 refine cD 1 [] h (fun hc3 h=>?_) fun hc3 h=>?_
 cases h
 exact rt 2 [] hQ
 refine cD 4 [] h (fun hc2 h=>?_) fun hc2 h=>?_
 refine yE h (fun n_ p1 hy h=>?_) fun e p2 hy h=>?_
 cases h
 exact rt 2 [(1,fm (GN _ (.ok n_ p1) hy))] hQ
 cases h
 exact rp 1 [(1,Ka (GN _ (.pan e p2) hy))] hQ
 refine cD 1 [] h (fun hc1 h=>?_) fun hc1 h=>?_
 cases h
 exact rt 2 [] hQ
 refine cD 1 [] h (fun hc h=>?_) fun hc h=>?_
 refine yE h (fun e1 p3 hy1 h=>?_) fun e2 p4 hy1 h=>?_
 refine wl 1 [(1,fm (H2 _ _ _ (.ok e1 p3) hy1))] ?_
 refine yE h (fun n_1 p5 hy2 h=>?_) fun e3 p6 hy2 h=>?_
 cases h
 exact rt 2 [(1,fm (BS _ _ (.ok n_1 p5) hy2))] hQ
 cases h
 exact rp 1 [(1,Ka (BS _ _ (.pan e3 p6) hy2))] hQ
 cases h
 exact rp 1 [(1,Ka (H2 _ _ _ (.pan e2 p4) hy1))] hQ
 cases h
 exact rt 1 [] hQ
theorem JB (n0:Nat)
 (ih_parse_parser_form:∀ m,m<=n0->∀ (p:Ae) (depth:Int) (r:(Ex Au Ae Aj)),Bh m p depth=some r->Jg r (fun v0 s0=>CR Tryz.prog 69 [iP depth] [hT p.l,iP p.forms] (.ret (.agg [tP v0.Word,hA v0.Args,hF v0.Body,iP v0.At])) [hT s0.l,iP s0.forms]) (fun e0 s0=>CR Tryz.prog 69 [iP depth] [hT p.l,iP p.forms] (.pan [{ v:=.iface 170 (.agg #[(.int .i64 e0.At),(.int .i64 e0.E)]),recovered:=false }]) [hT s0.l,iP s0.forms]))
 (n:Nat) (hn:n<=n0) (p:Ae) (depth:Int) (r:(Ex Au Ae Aj)) (h:Bh (n+1) p depth=some r):Jg r (fun v0 s0=>CR Tryz.prog 69 [iP depth] [hT p.l,iP p.forms] (.ret (.agg [tP v0.Word,hA v0.Args,hF v0.Body,iP v0.At])) [hT s0.l,iP s0.forms]) (fun e0 s0=>CR Tryz.prog 69 [iP depth] [hT p.l,iP p.forms] (.pan [{ v:=.iface 170 (.agg #[(.int .i64 e0.At),(.int .i64 e0.E)]),recovered:=false }]) [hT s0.l,iP s0.forms]):=by
 replace h:=(Bh.eq_2 ..).symm.trans h
 refine Xc ⟨[0,1,4,5,6,14,32,49,57,63,76,80],[(13,[9999,1,0,0,1,2,3,4,5,6,7]),(17,[9999,1,0,0,1,2,3,4,5,6,7,8,9])]⟩ Tryz.func69 follows fun Q hQ=>?_
 obtain⟨x,hx,h⟩:=Ad h
 refine mI 2 [(5,fi B0 hx)] h (fun (p1,p2)=>⟨[(0,.ptr 0 0),(1,iP depth),(4,.ptr 1 0)],[[hT p1,iP p2],[tP ⟨#[]⟩,.sl [] .own,.sl [] .own,iP 0]]⟩) ?_ fun y e h hJ=>?_
 rintro⟨p1,p2⟩ h
 refine mE 1 [] h (fun v32=>⟨[(0,.ptr 0 0),(1,iP depth),(4,.ptr 1 0),(32,bP v32)],[[hT p1,iP (IntKind.i64.wrap (p2+1))],[tP ⟨#[]⟩,.sl [] .own,.sl [] .own,iP 0]]⟩) ?_ fun y1 e1 hJ1=>?_
 rintro v32 h
 refine mI 0 [] h (fun (p3,p4)=>⟨[(0,.ptr 0 0),(1,iP depth),(4,.ptr 1 0)],[[hT p3,iP p4],[tP ⟨#[]⟩,.sl [] .own,.sl [] .own,iP 0]]⟩) ?_ fun y2 e2 h hJ2=>?_
 rintro⟨p3,p4⟩ h
 obtain⟨t,ht,h⟩:=Ad h
 refine mI 2 [(1,fm (AS _ _ ht))] h (fun (p5,p6,f)=>⟨[(0,.ptr 0 0),(1,iP depth),(4,.ptr 1 0),(6,.ptr 3 0)],[[hT p5,iP p6],[tP ⟨#[]⟩,.sl [] .own,.sl [] .own,iP 0],[iP t.1.Kind,iP t.1.At,tP t.1.S,iP t.1.N],[tP t.1.S,oA f,.sl [] .own,iP t.1.At]]⟩) ?_ fun y3 e3 h hJ3=>?_
 rintro⟨p5,p6,f⟩ h
 obtain⟨n_,hn_,h⟩:=Ad h
 refine cD 1 [(1,fm (AS _ _ hn_))] h (fun hc1 h=>?_) fun hc1 h=>?_
 cases h
 exact rt 1 [] hQ
 refine mI 0 [] h (fun (p7,p8,f1)=>⟨[(0,.ptr 0 0),(4,.ptr 1 0),(6,.ptr 3 0)],[[hT p7,iP p8],[tP ⟨#[]⟩,.sl [] .own,.sl [] .own,iP 0],[iP t.1.Kind,iP t.1.At,tP t.1.S,iP t.1.N],[tP t.1.S,oA f,oF f1,iP t.1.At]]⟩) ?_ fun y4 e4 h hJ4=>?_
 rintro⟨p7,p8,f1⟩ h
 obtain⟨n_1,hn_1,h⟩:=Ad h
 cases h
 exact rt 2 [(1,fm (AS _ _ hn_1))] hQ
 refine lR 1 [] (A:=((List Ac)×Int×(List Aj))) (fun n (p9,p10,f2)=>Bw n depth p9 p10 f2) (fun (p9,p10,f2)=>⟨[(0,.ptr 0 0),(1,iP depth),(4,.ptr 1 0),(6,.ptr 3 0)],[[hT p9,iP p10],[tP ⟨#[]⟩,.sl [] .own,.sl [] .own,iP 0],[iP t.1.Kind,iP t.1.At,tP t.1.S,iP t.1.N],[tP t.1.S,oA f,oF f2,iP t.1.At]]⟩) (n_.2.l,n_.2.forms,[]) hn e4 (fun _=>rfl) ?_
 rintro n ⟨p9,p10,f2⟩ hn e4 ih
 replace e4:=(Bw.eq_2 ..).symm.trans e4
 obtain⟨i,hi,e4⟩:=Ad e4
 refine cD 1 [(1,fm (Bi _ _ _ hi))] e4 (fun hc e4=>?_) fun hc e4=>?_
 refine wl 1 [] ?_
 refine yE e4 (fun f3 p11 hy5 e4=>?_) fun e5 p12 hy5 e4=>?_
 obtain⟨l,hl,e4⟩:=Ad e4
 obtain⟨l1,hl1,e4⟩:=Ad e4
 exact mJ 1 [(5,fm (ih_parse_parser_form _ hn _ _ (.ok f3 p11) hy5)),(0,fB BW hl),(0,fa BW hl1)] (ih (_,_,_) e4)
 cases e4
 cases h
 exact rp 1 [(5,Ka (ih_parse_parser_form _ hn _ _ (.pan e5 p12) hy5))] hQ
 exact mJ 1 [] (hJ4 _ (oj e4))
 refine lR 1 [] (A:=((List Ac)×Int×(List Aw))) (fun n (p13,p14,f4)=>AW n p13 p14 f4) (fun (p13,p14,f4)=>⟨[(0,.ptr 0 0),(1,iP depth),(4,.ptr 1 0),(6,.ptr 3 0)],[[hT p13,iP p14],[tP ⟨#[]⟩,.sl [] .own,.sl [] .own,iP 0],[iP t.1.Kind,iP t.1.At,tP t.1.S,iP t.1.N],[tP t.1.S,oA f4,.sl [] .own,iP t.1.At]]⟩) (t.2.l,t.2.forms,[]) hn e3 (fun _=>rfl) ?_
 rintro n ⟨p13,p14,f4⟩ hn e3 ih1
 replace e3:=(AW.eq_2 ..).symm.trans e3
 refine mE 0 [] e3 (fun v49=>⟨[(0,.ptr 0 0),(1,iP depth),(4,.ptr 1 0),(6,.ptr 3 0),(49,bP v49)],[[hT p13,iP p14],[tP ⟨#[]⟩,.sl [] .own,.sl [] .own,iP 0],[iP t.1.Kind,iP t.1.At,tP t.1.S,iP t.1.N],[tP t.1.S,oA f4,.sl [] .own,iP t.1.At]]⟩) ?_ fun y6 e6 hJ5=>?_
 rintro v49 e3
 refine cD 0 [] e3 (fun hc5 e3=>?_) fun hc5 e3=>?_
 refine mE 1 [] e3 (fun v57=>⟨[(0,.ptr 0 0),(1,iP depth),(4,.ptr 1 0),(6,.ptr 3 0),(57,bP v57)],[[hT p13,iP p14],[tP ⟨#[]⟩,.sl [] .own,.sl [] .own,iP 0],[iP t.1.Kind,iP t.1.At,tP t.1.S,iP t.1.N],[tP t.1.S,oA f4,.sl [] .own,iP t.1.At]]⟩) ?_ fun y7 e7 hJ6=>?_
 rintro v57 e3
 refine mI 0 [] e3 (fun (p15,p16)=>⟨[(0,.ptr 0 0),(1,iP depth),(4,.ptr 1 0),(6,.ptr 3 0)],[[hT p15,iP p16],[tP ⟨#[]⟩,.sl [] .own,.sl [] .own,iP 0],[iP t.1.Kind,iP t.1.At,tP t.1.S,iP t.1.N],[tP t.1.S,oA f4,.sl [] .own,iP t.1.At]]⟩) ?_ fun y8 e8 e3 hJ7=>?_
 rintro⟨p15,p16⟩ e3
 refine cD 1 [(2,fl AA f4)] e3 (fun hc2 e3=>?_) fun hc2 e3=>?_
 refine yE e3 (fun f5 p17 hy9 e3=>?_) fun e9 p18 hy9 e3=>?_
 refine wl 1 [(1,fm (A7 _ _ (.ok f5 p17) hy9))] ?_
 refine yE e3 (fun a_ p19 hy10 e3=>?_) fun e10 p20 hy10 e3=>?_
 obtain⟨l2,hl2,e3⟩:=Ad e3
 obtain⟨l3,hl3,e3⟩:=Ad e3
 exact mJ 1 [(3,fm (EL _ _ (.ok a_ p19) hy10)),(0,Vn AA hl2),(0,fa AA hl3)] (ih1 (_,_,_) e3)
 cases e3
 cases h
 exact rp 1 [(3,Ka (EL _ _ (.pan e10 p20) hy10))] hQ
 cases e3
 cases h
 exact rp 1 [(1,Ka (A7 _ _ (.pan e9 p18) hy9))] hQ
 refine yE e3 (fun a_1 p21 hy11 e3=>?_) fun e11 p22 hy11 e3=>?_
 obtain⟨l4,hl4,e3⟩:=Ad e3
 obtain⟨l5,hl5,e3⟩:=Ad e3
 exact mJ 1 [(3,fm (EL _ _ (.ok a_1 p21) hy11)),(0,Vn AA hl4),(0,fa AA hl5)] (ih1 (_,_,_) e3)
 cases e3
 cases h
 exact rp 1 [(3,Ka (EL _ _ (.pan e11 p22) hy11))] hQ
 refine cD 0 [] e8 (fun hc3 e8=>?_) fun hc3 e8=>?_
 refine yE e8 (fun f6 p23 hy12 e8=>?_) fun e12 p24 hy12 e8=>?_
 exact mJ 1 [(1,fm (A7 _ _ (.ok f6 p23) hy12))] (hJ7 _ (oj e8))
 cases e8
 cases e3
 cases h
 exact rp 1 [(1,Ka (A7 _ _ (.pan e12 p24) hy12))] hQ
 exact mJ 0 [] (hJ7 _ (oj e8))
 obtain⟨b,hb,e7⟩:=Ad e7
 rcases Ai e7 with⟨hc4,e7⟩|⟨hc4,e7⟩
 obtain⟨i1,hi1,e7⟩:=Ad e7
 exact mJ 1 [(1,fm (Cu _ _ hb)),(1,fo hc4),(1,fm (Bi _ _ _ hi1))] (hJ6 _ (oj e7))
 exact mJ 1 [(1,fm (Cu _ _ hb)),(1,fo hc4)] (hJ6 _ (oj e7))
 exact mJ 1 [] (hJ3 _ (oj e3))
 obtain⟨i2,hi2,e6⟩:=Ad e6
 rcases Ai e6 with⟨hc6,e6⟩|⟨hc6,e6⟩
 obtain⟨i3,hi3,e6⟩:=Ad e6
 exact mJ 1 [(1,fm (Bi _ _ _ hi2)),(1,fo hc6),(1,fm (Bi _ _ _ hi3))] (hJ5 _ (oj e6))
 exact mJ 1 [(1,fm (Bi _ _ _ hi2)),(1,fo hc6)] (hJ5 _ (oj e6))
 refine cD 0 [] e2 (fun hc7 e2=>?_) fun hc7 e2=>?_
 refine yE e2 (fun f7 p25 hy13 e2=>?_) fun e13 p26 hy13 e2=>?_
 exact mJ 1 [(1,fm (A7 _ _ (.ok f7 p25) hy13))] (hJ2 _ (oj e2))
 cases e2
 cases h
 exact rp 1 [(1,Ka (A7 _ _ (.pan e13 p26) hy13))] hQ
 exact mJ 0 [] (hJ2 _ (oj e2))
 rcases Ai e1 with⟨hc8,e1⟩|⟨hc8,e1⟩
 exact mJ 1 [(2,fo hc8)] (hJ1 _ (oj e1))
 exact mJ 1 [(2,fo hc8)] (hJ1 _ (oj e1))
 refine cD 0 [] e (fun hc9 e=>?_) fun hc9 e=>?_
 refine yE e (fun f8 p27 hy14 e=>?_) fun e14 p28 hy14 e=>?_
 exact mJ 1 [(1,fm (A7 _ _ (.ok f8 p27) hy14))] (hJ _ (oj e))
 cases e
 cases h
 exact rp 1 [(1,Ka (A7 _ _ (.pan e14 p28) hy14))] hQ
 exact mJ 0 [] (hJ _ (oj e))
theorem Gp:∀ n:Nat,(∀ m,m<=n->∀ (p:Ae) (depth:Int) (r:(Ex Au Ae Aj)),Bh m p depth=some r->Jg r (fun v0 s0=>CR Tryz.prog 69 [iP depth] [hT p.l,iP p.forms] (.ret (.agg [tP v0.Word,hA v0.Args,hF v0.Body,iP v0.At])) [hT s0.l,iP s0.forms]) (fun e0 s0=>CR Tryz.prog 69 [iP depth] [hT p.l,iP p.forms] (.pan [{ v:=.iface 170 (.agg #[(.int .i64 e0.At),(.int .i64 e0.E)]),recovered:=false }]) [hT s0.l,iP s0.forms]))
 |0=>(fun m hm p depth r h=>by
  obtain rfl:m=0:=by omega
  exact absurd h (by simp [Bh]))
 |n+1=>by
  have ih:=Gp n
  exact fun m hm p depth r h=>by
   cases m with
   |zero=>exact absurd h (by simp [Bh])
   |succ m=>exact JB n (ih) m (by omega) p depth _ h
theorem En (n:Nat)(p:Ae)(depth:Int)(r:(Ex Au Ae Aj))(h:Bh n p depth=some r):Jg r (fun v0 s0=>CR Tryz.prog 69 [iP depth] [hT p.l,iP p.forms] (.ret (.agg [tP v0.Word,hA v0.Args,hF v0.Body,iP v0.At])) [hT s0.l,iP s0.forms]) (fun e0 s0=>CR Tryz.prog 69 [iP depth] [hT p.l,iP p.forms] (.pan [{ v:=.iface 170 (.agg #[(.int .i64 e0.At),(.int .i64 e0.E)]),recovered:=false }]) [hT s0.l,iP s0.forms]) :=
 (Gp n) n (Nat.le_refl _) p depth r h
end Go.Proofs.YtkcfmlfkfagejaaGreatDoor
