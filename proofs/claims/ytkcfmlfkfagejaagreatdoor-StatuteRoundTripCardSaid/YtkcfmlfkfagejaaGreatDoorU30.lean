/-
  The walks of chapter 33: operators and parser: the program computes the plain functions. (Printed by lift.py.)
-/
import Derived.Test.YtkcfmlfkfagejaaGreatDoorU7
import Derived.Test.YtkcfmlfkfagejaaGreatDoorU12
import Derived.Test.YtkcfmlfkfagejaaGreatDoorU25
set_option linter.unusedVariables false
set_option linter.unusedSimpArgs false
namespace Go.Proofs.YtkcfmlfkfagejaaGreatDoor
open Go.RowKit Go.Q Go.Vl Go.Sp
set_option maxRecDepth 100000
set_option linter.unusedSimpArgs false
set_option maxHeartbeats 4000000
set_option linter.unusedVariables false
theorem DF (r:(List Ar))(h:CT=some r):CZ Tryz.prog 135 [] (oE r):=by
 unfold CT at h
 refine vPo ⟨[0],[]⟩ Tryz.func135 follows fun Q hQ=>?_
 obtain⟨l,hl,h⟩:=Ad h
 cases h
 exact ro 2 [(14,fB Cv hl)] hQ
theorem A5 (p:Ae)(e:Int)(r:(Ex Ap Ae Unit))(h:AL p e=some r):KE r (fun v0 s0=>CV Tryz.prog 118 [iP e] [hT p.l,iP p.forms] (.ret (.tup [])) [hT s0.l,iP s0.forms]) (fun e0 s0=>CV Tryz.prog 118 [iP e] [hT p.l,iP p.forms] (.pan [{ v:=.iface 170 (.agg #[(.int .i64 e0.At),(.int .i64 e0.E)]),recovered:=false }]) [hT s0.l,iP s0.forms]):=by
 unfold AL at h
 refine vMx ⟨[0,1],[]⟩ Tryz.func118 follows fun Q hQ=>?_
 obtain⟨x,hx,h⟩:=Ad h
 cases h
 exact rp 1 [(4,fi Bh hx)] hQ
theorem AQ (p:Ae)(r:(Ab×Ae))(h:A4 p=some r):CV Tryz.prog 119 [] [hT p.l,iP p.forms] (.ret (.agg [iP r.1.Kind,iP r.1.At,tP r.1.S,iP r.1.N])) [hT r.2.l,iP r.2.forms]:=by
 unfold A4 at h
 refine vM ⟨[0,2,3],[]⟩ Tryz.func119 follows fun Q hQ=>?_
 obtain⟨x,hx,h⟩:=Ad h
 obtain⟨l,hl,h⟩:=Ad h
 cases h
 exact rt 4 [(5,fi Bh hx),(8,fse Bh hl)] hQ
theorem Bg (p:Ae)(s:Â)(r:Bool)(h:AJ p s=some r):CV Tryz.prog 120 [tP s] [hT p.l,iP p.forms] (.ret (bP r)) [hT p.l,iP p.forms]:=by
 unfold AJ at h
 refine vM ⟨[0,1,4],[]⟩ Tryz.func120 follows fun Q hQ=>?_
 refine mE 1 [] h (fun v4=>⟨[(4,bP v4)],[[hT p.l,iP p.forms]]⟩) ?_ fun y e hJ=>?_
 rintro v4 h
 cases h
 exact rt 0 [] hQ
 obtain⟨x,hx,e⟩:=Ad e
 rcases An e with⟨hc,e⟩|⟨hc,e⟩
 exact mJ 1 [(4,fi Bh hx),(3,fo hc),(4,fi Bh hx)] (hJ _ (oj e))
 exact mJ 1 [(4,fi Bh hx),(3,fo hc)] (hJ _ (oj e))
theorem CD (p:Ae)(r:Bool)(h:BH p=some r):CV Tryz.prog 121 [] [hT p.l,iP p.forms] (.ret (bP r)) [hT p.l,iP p.forms]:=by
 unfold BH at h
 refine vM ⟨[0,2,9,10],[]⟩ Tryz.func121 follows fun Q hQ=>?_
 obtain⟨x,hx,h⟩:=Ad h
 refine mE 4 [(5,fi Bh hx)] h (fun v10=>⟨[(0,.ptr 0 0),(2,bP false),(10,bP v10)],[[hT p.l,iP p.forms]]⟩) ?_ fun y e hJ=>?_
 rintro v10 h
 refine cD 0 [] h (fun hc1 h=>?_) fun hc1 h=>?_
 cases h
 exact rt 1 [] hQ
 refine mE 0 [] h (fun v2=>⟨[(2,bP v2)],[[hT p.l,iP p.forms]]⟩) ?_ fun y1 e1 hJ1=>?_
 rintro v2 h
 cases h
 exact rt 0 [] hQ
 obtain⟨i,hi,e1⟩:=Ad e1
 rcases An e1 with⟨hc,e1⟩|⟨hc,e1⟩
 exact mJ 1 [(1,fm (Bg _ _ _ hi)),(0,fo hc)] (hJ1 _ (oj e1))
 obtain⟨i1,hi1,e1⟩:=Ad e1
 exact mJ 1 [(1,fm (Bg _ _ _ hi)),(0,fo hc),(1,fm (Bg _ _ _ hi1))] (hJ1 _ (oj e1))
 refine cD 0 [] e (fun hc3 e=>?_) fun hc3 e=>?_
 exact mJ 0 [] (hJ _ (oj e))
 refine cD 1 [] e (fun hc2 e=>?_) fun hc2 e=>?_
 exact mJ 0 [] (hJ _ (oj e))
 exact mJ 1 [] (hJ _ (oj e))
theorem HH (p:Ae)(r:(Ex Ap Ae Int))(h:BX p=some r):KE r (fun v0 s0=>CV Tryz.prog 146 [] [hT p.l,iP p.forms] (.ret (iP v0)) [hT s0.l,iP s0.forms]) (fun e0 s0=>CV Tryz.prog 146 [] [hT p.l,iP p.forms] (.pan [{ v:=.iface 170 (.agg #[(.int .i64 e0.At),(.int .i64 e0.E)]),recovered:=false }]) [hT s0.l,iP s0.forms]):=by
 unfold BX at h
 refine vMx ⟨[0,2,10],[]⟩ Tryz.func146 follows fun Q hQ=>?_
 obtain⟨x,hx,h⟩:=Ad h
 refine cD 2 [(5,fi Bh hx)] h (fun hc h=>?_) fun hc h=>?_
 refine yE h (fun f p1 hy h=>?_) fun e p2 hy h=>?_
 obtain⟨n_,hn_,h⟩:=Ad h
 cases h
 exact rt 2 [(1,fm (A5 _ _ (.ok f p1) hy)),(1,fm (AQ _ _ hn_))] hQ
 cases h
 exact rp 1 [(1,LP (A5 _ _ (.pan e p2) hy))] hQ
 obtain⟨n_1,hn_1,h⟩:=Ad h
 cases h
 exact rt 1 [(1,fm (AQ _ _ hn_1))] hQ
theorem Cl (p:Ae)(depth:Int)(not_:Bool)(r:(Ex Ap Ae Unit))(h:Ci p depth not_=some r):KE r (fun v0 s0=>CV Tryz.prog 170 [iP depth,bP not_] [hT p.l,iP p.forms] (.ret (.tup [])) [hT s0.l,iP s0.forms]) (fun e0 s0=>CV Tryz.prog 170 [iP depth,bP not_] [hT p.l,iP p.forms] (.pan [{ v:=.iface 170 (.agg #[(.int .i64 e0.At),(.int .i64 e0.E)]),recovered:=false }]) [hT s0.l,iP s0.forms]):=by
 unfold Ci at h
 refine vMx ⟨[0,1,2,16,20],[]⟩ Tryz.func170 follows fun Q hQ=>?_
 refine mE 0 [] h (fun v16=>⟨[(0,.ptr 0 0),(1,iP depth),(16,bP v16)],[[hT p.l,iP p.forms]]⟩) ?_ fun y e hJ=>?_
 rintro v16 h
 refine mI 0 [] h (fun (p1,p2)=>⟨[(0,.ptr 0 0),(1,iP depth)],[[hT p1,iP p2]]⟩) ?_ fun y1 e1 h hJ1=>?_
 rintro⟨p1,p2⟩ h
 refine cD 1 [] h (fun hc h=>?_) fun hc h=>?_
 refine yE h (fun f p3 hy2 h=>?_) fun e2 p4 hy2 h=>?_
 cases h
 exact rt 1 [(1,fm (A5 _ _ (.ok f p3) hy2))] hQ
 cases h
 exact rp 1 [(1,LP (A5 _ _ (.pan e2 p4) hy2))] hQ
 cases h
 exact rt 0 [] hQ
 refine cD 0 [] e1 (fun hc1 e1=>?_) fun hc1 e1=>?_
 refine yE e1 (fun f1 p5 hy3 e1=>?_) fun e3 p6 hy3 e1=>?_
 exact mJ 1 [(1,fm (A5 _ _ (.ok f1 p5) hy3))] (hJ1 _ (oj e1))
 cases e1
 cases h
 exact rp 1 [(1,LP (A5 _ _ (.pan e3 p6) hy3))] hQ
 exact mJ 0 [] (hJ1 _ (oj e1))
 obtain⟨b,hb,e⟩:=Ad e
 rcases An e with⟨hc2,e⟩|⟨hc2,e⟩
 rcases An e with⟨hc3,e⟩|⟨hc3,e⟩
 obtain⟨i,hi,e⟩:=Ad e
 exact mJ 1 [(1,fm (CD _ _ hb)),(1,fo hc2),(1,fo hc3),(1,fm (Bg _ _ _ hi))] (hJ _ (oj e))
 exact mJ 1 [(1,fm (CD _ _ hb)),(1,fo hc2),(1,fo hc3)] (hJ _ (oj e))
 exact mJ 1 [(1,fm (CD _ _ hb)),(1,fo hc2)] (hJ _ (oj e))
theorem Ck (p:Ae)(s:Â)(r:(Ex Ap Ae Unit))(h:Bj p s=some r):KE r (fun v0 s0=>CV Tryz.prog 148 [tP s] [hT p.l,iP p.forms] (.ret (.tup [])) [hT s0.l,iP s0.forms]) (fun e0 s0=>CV Tryz.prog 148 [tP s] [hT p.l,iP p.forms] (.pan [{ v:=.iface 170 (.agg #[(.int .i64 e0.At),(.int .i64 e0.E)]),recovered:=false }]) [hT s0.l,iP s0.forms]):=by
 unfold Bj at h
 refine vMx ⟨[0,1,7],[]⟩ Tryz.func148 follows fun Q hQ=>?_
 obtain⟨i,hi,h⟩:=Ad h
 refine cD 1 [(2,fm (Bg _ _ _ hi))] h (fun hc h=>?_) fun hc h=>?_
 refine yE h (fun f p1 hy h=>?_) fun e p2 hy h=>?_
 obtain⟨n_,hn_,h⟩:=Ad h
 cases h
 exact rt 2 [(1,fm (A5 _ _ (.ok f p1) hy)),(1,fm (AQ _ _ hn_))] hQ
 cases h
 exact rp 1 [(1,LP (A5 _ _ (.pan e p2) hy))] hQ
 obtain⟨n_1,hn_1,h⟩:=Ad h
 cases h
 exact rt 1 [(1,fm (AQ _ _ hn_1))] hQ
theorem Jy (p:(List Ab))(p1:Int)(n_:Int)(q:Int)(q1:Int)(q2:Â)(q3:(List Aa))(q4:Int)(e:Int)(e1:Int)(e2:Â)(e3:(List Aa))(e4:Int)(b:Ar)(r:Bool)(h:CF p p1 n_ q q1 q2 q3 q4 e e1 e2 e3 e4 b=some r):M9 Tryz.prog 200 [.agg [tP b.sign,iP b.op,iP b.level],.ptr 2 0,.ptr 1 0] [[hT p,iP p1],[.ptr 0 0],[iP n_],[iP q,iP q1,tP q2,oX q3,iP q4],[iP e,iP e1,tP e2,hX e3,iP e4]] (.ret (bP r)) [[hT p,iP p1],[.ptr 0 0],[iP n_],[iP q,iP q1,tP q2,oX q3,iP q4],[iP e,iP e1,tP e2,hX e3,iP e4]]:=by
 unfold CF at h
 refine vS ⟨[0,1,2,3,4],[]⟩ Tryz.func200 follows fun Q hQ=>?_
 refine mE 1 [] h (fun v4=>⟨[(4,bP v4)],[[hT p,iP p1],[.ptr 0 0],[iP n_],[iP q,iP q1,tP q2,oX q3,iP q4],[iP e,iP e1,tP e2,hX e3,iP e4],[tP b.sign,iP b.op,iP b.level]]⟩) ?_ fun y e5 hJ=>?_
 rintro v4 h
 cases h
 exact rt 0 [] hQ
 rcases An e5 with⟨hc,e5⟩|⟨hc,e5⟩
 obtain⟨i,hi,e5⟩:=Ad e5
 exact mJ 1 [(4,fo hc),(3,fm (Bg _ _ _ hi))] (hJ _ (oj e5))
 exact mJ 1 [(4,fo hc)] (hJ _ (oj e5))
theorem HU (n:Nat)(p:(List Ab))(p1:Int)(n_:Int)(q:Int)(q1:Int)(q2:Â)(q3:(List Aa))(q4:Int)(e:Int)(e1:Int)(e2:Â)(e3:(List Aa))(e4:Int)(s:(List Ar))(r:Int)(h:CH n p p1 n_ q q1 q2 q3 q4 e e1 e2 e3 e4 s=some r):M9 Tryz.prog 134 [hE s,.fn 200 [.ptr 2 0,.ptr 1 0]] [[hT p,iP p1],[.ptr 0 0],[iP n_],[iP q,iP q1,tP q2,oX q3,iP q4],[iP e,iP e1,tP e2,hX e3,iP e4]] (.ret (iP r)) [[hT p,iP p1],[.ptr 0 0],[iP n_],[iP q,iP q1,tP q2,oX q3,iP q4],[iP e,iP e1,tP e2,hX e3,iP e4]]:=by
 unfold CH at h
 refine vS ⟨[0,1,4,5,7,8,9,16],[]⟩ Tryz.func134 follows fun Q hQ=>?_
 refine mI 2 [(2,fl Cv s)] h (fun _=>⟨[(4,iP 0)],[[hT p,iP p1],[.ptr 0 0],[iP n_],[iP q,iP q1,tP q2,oX q3,iP q4],[iP e,iP e1,tP e2,hX e3,iP e4]]⟩) ?_ fun y e5 h hJ=>?_
 rintro _ h
 cases h
 exact rt 1 [] hQ
 refine lF 1 [] (A:=Int) (fun n v8=>Bk n s p p1 n_ q q1 q2 q3 q4 e e1 e2 e3 e4 v8) (fun v8=>⟨[(0,hE s),(1,.fn 200 [.ptr 2 0,.ptr 1 0]),(4,iP 0),(7,iP (s.length:Int)),(8,iP v8)],[[hT p,iP p1],[.ptr 0 0],[iP n_],[iP q,iP q1,tP q2,oX q3,iP q4],[iP e,iP e1,tP e2,hX e3,iP e4]]⟩) 0 e5 (fun _=>rfl) ?_
 rintro n v8 e5 ih
 replace e5:=(Bk.eq_2 ..).symm.trans e5
 refine cD 1 [] e5 (fun hc1 e5=>?_) fun hc1 e5=>?_
 obtain⟨x,hx,e5⟩:=Ad e5
 obtain⟨l,hl,e5⟩:=Ad e5
 refine cD 3 [(5,fi Cv hx),(1,fs (Jy _ _ _ _ _ _ _ _ _ _ _ _ _ _ _ hl))] e5 (fun hc e5=>?_) fun hc e5=>?_
 cases e5
 cases h
 exact rt 1 [] hQ
 exact mJ 1 [] (ih _ e5)
 exact mJ 1 [] (hJ _ (oj e5))
theorem Lo (n0:Nat)
 (ih_parse_parser_expr:∀ m,m<=n0->∀ (p:Ae) (depth:Int) (r:(Ex Ap Ae Aa)),Av m p depth=some r->KE r (fun v0 s0=>CV Tryz.prog 147 [iP depth] [hT p.l,iP p.forms] (.ret (.agg [iP v0.Op,iP v0.N,tP v0.S,hX v0.Kids,iP v0.At])) [hT s0.l,iP s0.forms]) (fun e0 s0=>CV Tryz.prog 147 [iP depth] [hT p.l,iP p.forms] (.pan [{ v:=.iface 170 (.agg #[(.int .i64 e0.At),(.int .i64 e0.E)]),recovered:=false }]) [hT s0.l,iP s0.forms]))
 (ih_parse_parser_level:∀ m,m<=n0->∀ (p:Ae) (n_:Int) (depth:Int) (r:(Ex Ap Ae Aa)),A0 m p n_ depth=some r->KE r (fun v0 s0=>CV Tryz.prog 171 [iP n_,iP depth] [hT p.l,iP p.forms] (.ret (.agg [iP v0.Op,iP v0.N,tP v0.S,hX v0.Kids,iP v0.At])) [hT s0.l,iP s0.forms]) (fun e0 s0=>CV Tryz.prog 171 [iP n_,iP depth] [hT p.l,iP p.forms] (.pan [{ v:=.iface 170 (.agg #[(.int .i64 e0.At),(.int .i64 e0.E)]),recovered:=false }]) [hT s0.l,iP s0.forms]))
 (ih_parse_parser_neg:∀ m,m<=n0->∀ (p:Ae) (depth:Int) (r:(Ex Ap Ae Aa)),AT m p depth=some r->KE r (fun v0 s0=>CV Tryz.prog 199 [iP depth] [hT p.l,iP p.forms] (.ret (.agg [iP v0.Op,iP v0.N,tP v0.S,hX v0.Kids,iP v0.At])) [hT s0.l,iP s0.forms]) (fun e0 s0=>CV Tryz.prog 199 [iP depth] [hT p.l,iP p.forms] (.pan [{ v:=.iface 170 (.agg #[(.int .i64 e0.At),(.int .i64 e0.E)]),recovered:=false }]) [hT s0.l,iP s0.forms]))
 (ih_parse_parser_atom:∀ m,m<=n0->∀ (p:Ae) (depth:Int) (r:(Ex Ap Ae Aa)),AR m p depth=some r->KE r (fun v0 s0=>CV Tryz.prog 223 [iP depth] [hT p.l,iP p.forms] (.ret (.agg [iP v0.Op,iP v0.N,tP v0.S,hX v0.Kids,iP v0.At])) [hT s0.l,iP s0.forms]) (fun e0 s0=>CV Tryz.prog 223 [iP depth] [hT p.l,iP p.forms] (.pan [{ v:=.iface 170 (.agg #[(.int .i64 e0.At),(.int .i64 e0.E)]),recovered:=false }]) [hT s0.l,iP s0.forms]))
 (n:Nat) (hn:n<=n0) (p:Ae) (depth:Int) (r:(Ex Ap Ae Aa)) (h:Av (n+1) p depth=some r):KE r (fun v0 s0=>CV Tryz.prog 147 [iP depth] [hT p.l,iP p.forms] (.ret (.agg [iP v0.Op,iP v0.N,tP v0.S,hX v0.Kids,iP v0.At])) [hT s0.l,iP s0.forms]) (fun e0 s0=>CV Tryz.prog 147 [iP depth] [hT p.l,iP p.forms] (.pan [{ v:=.iface 170 (.agg #[(.int .i64 e0.At),(.int .i64 e0.E)]),recovered:=false }]) [hT s0.l,iP s0.forms]):=by
 replace h:=(Av.eq_2 ..).symm.trans h
 refine vMx ⟨[0,1,4,5,6,15],[(8,[9999,1,0,0,1,2,3,4,5,6,7,8,9,10])]⟩ Tryz.func147 follows fun Q hQ=>?_
 refine wl 1 [] ?_
 refine yE h (fun d p1 hy h=>?_) fun e p2 hy h=>?_
 refine wl 1 [(2,fm (Cl _ _ _ (.ok d p1) hy))] ?_
 refine yE h (fun e1 p3 hy1 h=>?_) fun e2 p4 hy1 h=>?_
 obtain⟨i,hi,h⟩:=Ad h
 refine cD 2 [(2,fm (ih_parse_parser_level _ hn _ _ _ (.ok e1 p3) hy1)),(3,fm (Bg _ _ _ hi))] h (fun hc h=>?_) fun hc h=>?_
 cases h
 exact rt 1 [] hQ
 obtain⟨n_,hn_,h⟩:=Ad h
 refine wl 1 [(1,fm (AQ _ _ hn_))] ?_
 refine yE h (fun a_ p5 hy2 h=>?_) fun e3 p6 hy2 h=>?_
 refine wl 1 [(3,fm (ih_parse_parser_expr _ hn _ _ (.ok a_ p5) hy2))] ?_
 refine yE h (fun n_1 p7 hy3 h=>?_) fun e4 p8 hy3 h=>?_
 refine wl 1 [(1,fm (Ck _ _ (.ok n_1 p7) hy3))] ?_
 refine yE h (fun e5 p9 hy4 h=>?_) fun e6 p10 hy4 h=>?_
 obtain⟨l,hl,h⟩:=Ad h
 cases h
 exact rt 1 [(7,fm (ih_parse_parser_expr _ hn _ _ (.ok e5 p9) hy4)),(0,fB A7 hl)] hQ
 cases h
 exact rp 1 [(7,LP (ih_parse_parser_expr _ hn _ _ (.pan e6 p10) hy4))] hQ
 cases h
 exact rp 1 [(1,LP (Ck _ _ (.pan e4 p8) hy3))] hQ
 cases h
 exact rp 1 [(3,LP (ih_parse_parser_expr _ hn _ _ (.pan e3 p6) hy2))] hQ
 cases h
 exact rp 1 [(2,LP (ih_parse_parser_level _ hn _ _ _ (.pan e2 p4) hy1))] hQ
 cases h
 exact rp 1 [(2,LP (Cl _ _ _ (.pan e p2) hy))] hQ
theorem Lf (n0:Nat)
 (ih_parse_parser_expr:∀ m,m<=n0->∀ (p:Ae) (depth:Int) (r:(Ex Ap Ae Aa)),Av m p depth=some r->KE r (fun v0 s0=>CV Tryz.prog 147 [iP depth] [hT p.l,iP p.forms] (.ret (.agg [iP v0.Op,iP v0.N,tP v0.S,hX v0.Kids,iP v0.At])) [hT s0.l,iP s0.forms]) (fun e0 s0=>CV Tryz.prog 147 [iP depth] [hT p.l,iP p.forms] (.pan [{ v:=.iface 170 (.agg #[(.int .i64 e0.At),(.int .i64 e0.E)]),recovered:=false }]) [hT s0.l,iP s0.forms]))
 (ih_parse_parser_level:∀ m,m<=n0->∀ (p:Ae) (n_:Int) (depth:Int) (r:(Ex Ap Ae Aa)),A0 m p n_ depth=some r->KE r (fun v0 s0=>CV Tryz.prog 171 [iP n_,iP depth] [hT p.l,iP p.forms] (.ret (.agg [iP v0.Op,iP v0.N,tP v0.S,hX v0.Kids,iP v0.At])) [hT s0.l,iP s0.forms]) (fun e0 s0=>CV Tryz.prog 171 [iP n_,iP depth] [hT p.l,iP p.forms] (.pan [{ v:=.iface 170 (.agg #[(.int .i64 e0.At),(.int .i64 e0.E)]),recovered:=false }]) [hT s0.l,iP s0.forms]))
 (ih_parse_parser_neg:∀ m,m<=n0->∀ (p:Ae) (depth:Int) (r:(Ex Ap Ae Aa)),AT m p depth=some r->KE r (fun v0 s0=>CV Tryz.prog 199 [iP depth] [hT p.l,iP p.forms] (.ret (.agg [iP v0.Op,iP v0.N,tP v0.S,hX v0.Kids,iP v0.At])) [hT s0.l,iP s0.forms]) (fun e0 s0=>CV Tryz.prog 199 [iP depth] [hT p.l,iP p.forms] (.pan [{ v:=.iface 170 (.agg #[(.int .i64 e0.At),(.int .i64 e0.E)]),recovered:=false }]) [hT s0.l,iP s0.forms]))
 (ih_parse_parser_atom:∀ m,m<=n0->∀ (p:Ae) (depth:Int) (r:(Ex Ap Ae Aa)),AR m p depth=some r->KE r (fun v0 s0=>CV Tryz.prog 223 [iP depth] [hT p.l,iP p.forms] (.ret (.agg [iP v0.Op,iP v0.N,tP v0.S,hX v0.Kids,iP v0.At])) [hT s0.l,iP s0.forms]) (fun e0 s0=>CV Tryz.prog 223 [iP depth] [hT p.l,iP p.forms] (.pan [{ v:=.iface 170 (.agg #[(.int .i64 e0.At),(.int .i64 e0.E)]),recovered:=false }]) [hT s0.l,iP s0.forms]))
 (n:Nat) (hn:n<=n0) (p:Ae) (n_:Int) (depth:Int) (r:(Ex Ap Ae Aa)) (h:A0 (n+1) p n_ depth=some r):KE r (fun v0 s0=>CV Tryz.prog 171 [iP n_,iP depth] [hT p.l,iP p.forms] (.ret (.agg [iP v0.Op,iP v0.N,tP v0.S,hX v0.Kids,iP v0.At])) [hT s0.l,iP s0.forms]) (fun e0 s0=>CV Tryz.prog 171 [iP n_,iP depth] [hT p.l,iP p.forms] (.pan [{ v:=.iface 170 (.agg #[(.int .i64 e0.At),(.int .i64 e0.E)]),recovered:=false }]) [hT s0.l,iP s0.forms]):=by
 replace h:=(A0.eq_2 ..).symm.trans h
 refine vMx ⟨[0,1,2,3,4,6,7,8,9,11,13,31,44,64],[(14,[9999,1,0,1,5,6,7,8,9,10,11,0,2,3,4,12,13,14,15])]⟩ Tryz.func171 follows fun Q hQ=>?_
 refine mI 2 [] h (fun n_1=>⟨[(2,iP depth),(3,.ptr 1 0),(4,.ptr 2 0),(6,.ptr 3 0)],[[hT p.l,iP p.forms],[.ptr 0 0],[iP n_1],[iP 0,iP 0,tP ⟨#[]⟩,.sl [] .own,iP 0]]⟩) ?_ fun y e h hJ=>?_
 rintro n_1 h
 refine cD 1 [] h (fun hc2 h=>?_) fun hc2 h=>?_
 refine yE h (fun n_2 p1 hy1 h=>?_) fun e1 p2 hy1 h=>?_
 cases h
 exact rt 1 [(2,fm (ih_parse_parser_neg _ hn _ _ (.ok n_2 p1) hy1))] hQ
 cases h
 exact rp 1 [(2,LP (ih_parse_parser_neg _ hn _ _ (.pan e1 p2) hy1))] hQ
 refine yE h (fun e2 p3 hy2 h=>?_) fun e3 p4 hy2 h=>?_
 refine lR 2 [(4,fm (ih_parse_parser_level _ hn _ _ _ (.ok e2 p3) hy2))] (A:=((List Ab)×Int×Int×Int×ByteArray×(List Aa))) (fun n (p5,p6,e4,e5,e6,e7)=>Bi n n_1 e2 depth p5 p6 e4 e5 e6 e7) (fun (p5,p6,e4,e5,e6,e7)=>⟨[(2,iP depth),(3,.ptr 1 0),(4,.ptr 2 0),(6,.ptr 3 0),(8,.ptr 4 0)],[[hT p5,iP p6],[.ptr 0 0],[iP n_1],[iP 0,iP 0,tP ⟨#[]⟩,.sl [] .own,iP 0],[iP e4,iP e5,tP e6,hX e7,iP e2.At]]⟩) (p3.l,p3.forms,e2.Op,e2.N,e2.S,e2.Kids) hn h (fun _=>rfl) ?_
 rintro n ⟨p5,p6,e4,e5,e6,e7⟩ hn h ih
 replace h:=(Bi.eq_2 ..).symm.trans h
 obtain⟨o_,ho_,h⟩:=Ad h
 obtain⟨k,hk,h⟩:=Ad h
 refine cD 3 [(0,fk (DF _ ho_)),(1,fs (HU _ _ _ _ _ _ _ _ _ _ _ _ _ _ _ _ hk))] h (fun hc1 h=>?_) fun hc1 h=>?_
 cases h
 exact rt 1 [] hQ
 obtain⟨n_3,hn_3,h⟩:=Ad h
 obtain⟨o_1,ho_1,h⟩:=Ad h
 obtain⟨x,hx,h⟩:=Ad h
 refine wl 1 [(1,fm (AQ _ _ hn_3))] ?_
 refine yE h (fun l p7 hy3 h=>?_) fun e8 p8 hy3 h=>?_
 obtain⟨l1,hl1,h⟩:=Ad h
 refine cD 2 [(8,fk (DF _ ho_1)),(0,fi Cv hx),(2,fm (ih_parse_parser_level _ hn _ _ _ (.ok l p7) hy3)),(0,fB A7 hl1)] h (fun hc h=>?_) fun hc h=>?_
 cases h
 exact rt 1 [] hQ
 exact mJ 0 [] (ih (_,_,_,_,_,_) h)
 cases h
 exact rp 1 [(8,fk (DF _ ho_1)),(0,fi Cv hx),(2,LP (ih_parse_parser_level _ hn _ _ _ (.pan e8 p8) hy3))] hQ
 cases h
 exact rp 1 [(4,LP (ih_parse_parser_level _ hn _ _ _ (.pan e3 p4) hy2))] hQ
 refine cD 0 [] e (fun hc4 e=>?_) fun hc4 e=>?_
 obtain⟨i,hi,e⟩:=Ad e
 refine cD 1 [(1,fm (Bg _ _ _ hi))] e (fun hc3 e=>?_) fun hc3 e=>?_
 obtain⟨n_4,hn_4,e⟩:=Ad e
 refine wl 1 [(1,fm (AQ _ _ hn_4))] ?_
 refine yE e (fun d p9 hy4 e=>?_) fun e9 p10 hy4 e=>?_
 refine wl 1 [(3,fm (Cl _ _ _ (.ok d p9) hy4))] ?_
 refine yE e (fun l2 p11 hy5 e=>?_) fun e10 p12 hy5 e=>?_
 obtain⟨l3,hl3,e⟩:=Ad e
 cases e
 cases h
 exact rt 1 [(4,fm (ih_parse_parser_level _ hn _ _ _ (.ok l2 p11) hy5)),(0,fB A7 hl3)] hQ
 cases e
 cases h
 exact rp 1 [(4,LP (ih_parse_parser_level _ hn _ _ _ (.pan e10 p12) hy5))] hQ
 cases e
 cases h
 exact rp 1 [(3,LP (Cl _ _ _ (.pan e9 p10) hy4))] hQ
 exact mJ 1 [] (hJ _ (oj e))
 exact mJ 0 [] (hJ _ (oj e))
theorem M5 (n0:Nat)
 (ih_parse_parser_expr:∀ m,m<=n0->∀ (p:Ae) (depth:Int) (r:(Ex Ap Ae Aa)),Av m p depth=some r->KE r (fun v0 s0=>CV Tryz.prog 147 [iP depth] [hT p.l,iP p.forms] (.ret (.agg [iP v0.Op,iP v0.N,tP v0.S,hX v0.Kids,iP v0.At])) [hT s0.l,iP s0.forms]) (fun e0 s0=>CV Tryz.prog 147 [iP depth] [hT p.l,iP p.forms] (.pan [{ v:=.iface 170 (.agg #[(.int .i64 e0.At),(.int .i64 e0.E)]),recovered:=false }]) [hT s0.l,iP s0.forms]))
 (ih_parse_parser_level:∀ m,m<=n0->∀ (p:Ae) (n_:Int) (depth:Int) (r:(Ex Ap Ae Aa)),A0 m p n_ depth=some r->KE r (fun v0 s0=>CV Tryz.prog 171 [iP n_,iP depth] [hT p.l,iP p.forms] (.ret (.agg [iP v0.Op,iP v0.N,tP v0.S,hX v0.Kids,iP v0.At])) [hT s0.l,iP s0.forms]) (fun e0 s0=>CV Tryz.prog 171 [iP n_,iP depth] [hT p.l,iP p.forms] (.pan [{ v:=.iface 170 (.agg #[(.int .i64 e0.At),(.int .i64 e0.E)]),recovered:=false }]) [hT s0.l,iP s0.forms]))
 (ih_parse_parser_neg:∀ m,m<=n0->∀ (p:Ae) (depth:Int) (r:(Ex Ap Ae Aa)),AT m p depth=some r->KE r (fun v0 s0=>CV Tryz.prog 199 [iP depth] [hT p.l,iP p.forms] (.ret (.agg [iP v0.Op,iP v0.N,tP v0.S,hX v0.Kids,iP v0.At])) [hT s0.l,iP s0.forms]) (fun e0 s0=>CV Tryz.prog 199 [iP depth] [hT p.l,iP p.forms] (.pan [{ v:=.iface 170 (.agg #[(.int .i64 e0.At),(.int .i64 e0.E)]),recovered:=false }]) [hT s0.l,iP s0.forms]))
 (ih_parse_parser_atom:∀ m,m<=n0->∀ (p:Ae) (depth:Int) (r:(Ex Ap Ae Aa)),AR m p depth=some r->KE r (fun v0 s0=>CV Tryz.prog 223 [iP depth] [hT p.l,iP p.forms] (.ret (.agg [iP v0.Op,iP v0.N,tP v0.S,hX v0.Kids,iP v0.At])) [hT s0.l,iP s0.forms]) (fun e0 s0=>CV Tryz.prog 223 [iP depth] [hT p.l,iP p.forms] (.pan [{ v:=.iface 170 (.agg #[(.int .i64 e0.At),(.int .i64 e0.E)]),recovered:=false }]) [hT s0.l,iP s0.forms]))
 (n:Nat) (hn:n<=n0) (p:Ae) (depth:Int) (r:(Ex Ap Ae Aa)) (h:AT (n+1) p depth=some r):KE r (fun v0 s0=>CV Tryz.prog 199 [iP depth] [hT p.l,iP p.forms] (.ret (.agg [iP v0.Op,iP v0.N,tP v0.S,hX v0.Kids,iP v0.At])) [hT s0.l,iP s0.forms]) (fun e0 s0=>CV Tryz.prog 199 [iP depth] [hT p.l,iP p.forms] (.pan [{ v:=.iface 170 (.agg #[(.int .i64 e0.At),(.int .i64 e0.E)]),recovered:=false }]) [hT s0.l,iP s0.forms]):=by
 replace h:=(AT.eq_2 ..).symm.trans h
 refine vMx ⟨[0,1,4,5,8],[]⟩ Tryz.func199 follows fun Q hQ=>?_
 obtain⟨i,hi,h⟩:=Ad h
 refine cD 2 [(2,fm (Bg _ _ _ hi))] h (fun hc h=>?_) fun hc h=>?_
 refine yE h (fun a_ p1 hy h=>?_) fun e p2 hy h=>?_
 cases h
 exact rt 1 [(2,fm (ih_parse_parser_atom _ hn _ _ (.ok a_ p1) hy))] hQ
 cases h
 exact rp 1 [(2,LP (ih_parse_parser_atom _ hn _ _ (.pan e p2) hy))] hQ
 obtain⟨n_,hn_,h⟩:=Ad h
 refine wl 1 [(1,fm (AQ _ _ hn_))] ?_
 refine yE h (fun d p3 hy1 h=>?_) fun e1 p4 hy1 h=>?_
 refine wl 1 [(3,fm (Cl _ _ _ (.ok d p3) hy1))] ?_
 refine yE h (fun n_1 p5 hy2 h=>?_) fun e2 p6 hy2 h=>?_
 obtain⟨l,hl,h⟩:=Ad h
 cases h
 exact rt 1 [(4,fm (ih_parse_parser_neg _ hn _ _ (.ok n_1 p5) hy2)),(0,fB A7 hl)] hQ
 cases h
 exact rp 1 [(4,LP (ih_parse_parser_neg _ hn _ _ (.pan e2 p6) hy2))] hQ
 cases h
 exact rp 1 [(3,LP (Cl _ _ _ (.pan e1 p4) hy1))] hQ
theorem Lq (n0:Nat)
 (ih_parse_parser_expr:∀ m,m<=n0->∀ (p:Ae) (depth:Int) (r:(Ex Ap Ae Aa)),Av m p depth=some r->KE r (fun v0 s0=>CV Tryz.prog 147 [iP depth] [hT p.l,iP p.forms] (.ret (.agg [iP v0.Op,iP v0.N,tP v0.S,hX v0.Kids,iP v0.At])) [hT s0.l,iP s0.forms]) (fun e0 s0=>CV Tryz.prog 147 [iP depth] [hT p.l,iP p.forms] (.pan [{ v:=.iface 170 (.agg #[(.int .i64 e0.At),(.int .i64 e0.E)]),recovered:=false }]) [hT s0.l,iP s0.forms]))
 (ih_parse_parser_level:∀ m,m<=n0->∀ (p:Ae) (n_:Int) (depth:Int) (r:(Ex Ap Ae Aa)),A0 m p n_ depth=some r->KE r (fun v0 s0=>CV Tryz.prog 171 [iP n_,iP depth] [hT p.l,iP p.forms] (.ret (.agg [iP v0.Op,iP v0.N,tP v0.S,hX v0.Kids,iP v0.At])) [hT s0.l,iP s0.forms]) (fun e0 s0=>CV Tryz.prog 171 [iP n_,iP depth] [hT p.l,iP p.forms] (.pan [{ v:=.iface 170 (.agg #[(.int .i64 e0.At),(.int .i64 e0.E)]),recovered:=false }]) [hT s0.l,iP s0.forms]))
 (ih_parse_parser_neg:∀ m,m<=n0->∀ (p:Ae) (depth:Int) (r:(Ex Ap Ae Aa)),AT m p depth=some r->KE r (fun v0 s0=>CV Tryz.prog 199 [iP depth] [hT p.l,iP p.forms] (.ret (.agg [iP v0.Op,iP v0.N,tP v0.S,hX v0.Kids,iP v0.At])) [hT s0.l,iP s0.forms]) (fun e0 s0=>CV Tryz.prog 199 [iP depth] [hT p.l,iP p.forms] (.pan [{ v:=.iface 170 (.agg #[(.int .i64 e0.At),(.int .i64 e0.E)]),recovered:=false }]) [hT s0.l,iP s0.forms]))
 (ih_parse_parser_atom:∀ m,m<=n0->∀ (p:Ae) (depth:Int) (r:(Ex Ap Ae Aa)),AR m p depth=some r->KE r (fun v0 s0=>CV Tryz.prog 223 [iP depth] [hT p.l,iP p.forms] (.ret (.agg [iP v0.Op,iP v0.N,tP v0.S,hX v0.Kids,iP v0.At])) [hT s0.l,iP s0.forms]) (fun e0 s0=>CV Tryz.prog 223 [iP depth] [hT p.l,iP p.forms] (.pan [{ v:=.iface 170 (.agg #[(.int .i64 e0.At),(.int .i64 e0.E)]),recovered:=false }]) [hT s0.l,iP s0.forms]))
 (n:Nat) (hn:n<=n0) (p:Ae) (depth:Int) (r:(Ex Ap Ae Aa)) (h:AR (n+1) p depth=some r):KE r (fun v0 s0=>CV Tryz.prog 223 [iP depth] [hT p.l,iP p.forms] (.ret (.agg [iP v0.Op,iP v0.N,tP v0.S,hX v0.Kids,iP v0.At])) [hT s0.l,iP s0.forms]) (fun e0 s0=>CV Tryz.prog 223 [iP depth] [hT p.l,iP p.forms] (.pan [{ v:=.iface 170 (.agg #[(.int .i64 e0.At),(.int .i64 e0.E)]),recovered:=false }]) [hT s0.l,iP s0.forms]):=by
 replace h:=(AR.eq_2 ..).symm.trans h
 refine vMx ⟨[0,1,4,5,6,9,22,29,32,35,40,46,50,56],[(23,[9999,1,0,0,1,2,3,4,5,6,7,8,9])]⟩ Tryz.func223 follows fun Q hQ=>?_
 obtain⟨b,hb,h⟩:=Ad h
 refine mI 2 [(2,fm (CD _ _ hb))] h (fun (p1,p2)=>⟨[(0,.ptr 0 0),(1,iP depth),(4,.ptr 1 0)],[[hT p1,iP p2],[iP 0,iP 0,tP ⟨#[]⟩,.sl [] .own,iP 0]]⟩) ?_ fun y e h hJ=>?_
 rintro⟨p1,p2⟩ h
 obtain⟨t,ht,h⟩:=Ad h
 refine cD 5 [(1,fm (AQ _ _ ht))] h (fun hc6 h=>?_) fun hc6 h=>?_
 cases h
 exact rt 2 [] hQ
 refine cD 1 [] h (fun hc5 h=>?_) fun hc5 h=>?_
 cases h
 exact rt 2 [] hQ
 refine cD 1 [] h (fun hc4 h=>?_) fun hc4 h=>?_
 obtain⟨i,hi,h⟩:=Ad h
 refine cD 2 [(3,fm (Bg _ _ _ hi))] h (fun hc3 h=>?_) fun hc3 h=>?_
 cases h
 exact rt 2 [] hQ
 obtain⟨n_,hn_,h⟩:=Ad h
 refine mI 2 [(3,fm (AQ _ _ hn_))] h (fun (p3,p4,e1)=>⟨[(0,.ptr 0 0),(4,.ptr 1 0),(6,.ptr 3 0)],[[hT p3,iP p4],[iP 0,iP 0,tP ⟨#[]⟩,.sl [] .own,iP 0],[iP t.1.Kind,iP t.1.At,tP t.1.S,iP t.1.N],[iP 4,iP t.1.N,tP t.1.S,oX e1,iP t.1.At]]⟩) ?_ fun y1 e2 h hJ1=>?_
 rintro⟨p3,p4,e1⟩ h
 obtain⟨n_1,hn_1,h⟩:=Ad h
 cases h
 exact rt 2 [(1,fm (AQ _ _ hn_1))] hQ
 refine lR 1 [] (A:=((List Ab)×Int×(List Aa))) (fun n (p5,p6,e3)=>AM n depth p5 p6 e3) (fun (p5,p6,e3)=>⟨[(0,.ptr 0 0),(1,iP depth),(4,.ptr 1 0),(6,.ptr 3 0)],[[hT p5,iP p6],[iP 0,iP 0,tP ⟨#[]⟩,.sl [] .own,iP 0],[iP t.1.Kind,iP t.1.At,tP t.1.S,iP t.1.N],[iP 4,iP t.1.N,tP t.1.S,oX e3,iP t.1.At]]⟩) (n_.2.l,n_.2.forms,[]) hn e2 (fun _=>rfl) ?_
 rintro n ⟨p5,p6,e3⟩ hn e2 ih
 replace e2:=(AM.eq_2 ..).symm.trans e2
 obtain⟨i1,hi1,e2⟩:=Ad e2
 refine cD 1 [(1,fm (Bg _ _ _ hi1))] e2 (fun hc2 e2=>?_) fun hc2 e2=>?_
 refine mI 2 [(2,fl A7 e3)] e2 (fun (p7,p8)=>⟨[(0,.ptr 0 0),(1,iP depth),(4,.ptr 1 0),(6,.ptr 3 0)],[[hT p7,iP p8],[iP 0,iP 0,tP ⟨#[]⟩,.sl [] .own,iP 0],[iP t.1.Kind,iP t.1.At,tP t.1.S,iP t.1.N],[iP 4,iP t.1.N,tP t.1.S,oX e3,iP t.1.At]]⟩) ?_ fun y2 e4 e2 hJ2=>?_
 rintro⟨p7,p8⟩ e2
 refine cD 1 [(2,fl A7 e3)] e2 (fun hc e2=>?_) fun hc e2=>?_
 refine yE e2 (fun d p9 hy3 e2=>?_) fun e5 p10 hy3 e2=>?_
 refine wl 1 [(1,fm (Cl _ _ _ (.ok d p9) hy3))] ?_
 refine yE e2 (fun f p11 hy4 e2=>?_) fun e6 p12 hy4 e2=>?_
 refine wl 1 [(1,fm (A5 _ _ (.ok f p11) hy4))] ?_
 refine yE e2 (fun e7 p13 hy5 e2=>?_) fun e8 p14 hy5 e2=>?_
 obtain⟨l,hl,e2⟩:=Ad e2
 obtain⟨l1,hl1,e2⟩:=Ad e2
 exact mJ 1 [(5,fm (ih_parse_parser_expr _ hn _ _ (.ok e7 p13) hy5)),(0,fB A7 hl),(0,fa A7 hl1)] (ih (_,_,_) e2)
 cases e2
 cases h
 exact rp 1 [(5,LP (ih_parse_parser_expr _ hn _ _ (.pan e8 p14) hy5))] hQ
 cases e2
 cases h
 exact rp 1 [(1,LP (A5 _ _ (.pan e6 p12) hy4))] hQ
 cases e2
 cases h
 exact rp 1 [(1,LP (Cl _ _ _ (.pan e5 p10) hy3))] hQ
 refine yE e2 (fun e9 p15 hy6 e2=>?_) fun e10 p16 hy6 e2=>?_
 obtain⟨l2,hl2,e2⟩:=Ad e2
 obtain⟨l3,hl3,e2⟩:=Ad e2
 exact mJ 1 [(5,fm (ih_parse_parser_expr _ hn _ _ (.ok e9 p15) hy6)),(0,fB A7 hl2),(0,fa A7 hl3)] (ih (_,_,_) e2)
 cases e2
 cases h
 exact rp 1 [(5,LP (ih_parse_parser_expr _ hn _ _ (.pan e10 p16) hy6))] hQ
 refine cD 0 [] e4 (fun hc1 e4=>?_) fun hc1 e4=>?_
 refine yE e4 (fun n_2 p17 hy7 e4=>?_) fun e11 p18 hy7 e4=>?_
 exact mJ 1 [(1,fm (Ck _ _ (.ok n_2 p17) hy7))] (hJ2 _ (oj e4))
 cases e4
 cases e2
 cases h
 exact rp 1 [(1,LP (Ck _ _ (.pan e11 p18) hy7))] hQ
 exact mJ 0 [] (hJ2 _ (oj e4))
 exact mJ 1 [] (hJ1 _ (oj e2))
 refine yE h (fun e12 p19 hy8 h=>?_) fun e13 p20 hy8 h=>?_
 refine wl 1 [(3,fm (ih_parse_parser_expr _ hn _ _ (.ok e12 p19) hy8))] ?_
 refine yE h (fun n_3 p21 hy9 h=>?_) fun e14 p22 hy9 h=>?_
 cases h
 exact rt 2 [(1,fm (Ck _ _ (.ok n_3 p21) hy9))] hQ
 cases h
 exact rp 1 [(1,LP (Ck _ _ (.pan e14 p22) hy9))] hQ
 cases h
 exact rp 1 [(3,LP (ih_parse_parser_expr _ hn _ _ (.pan e13 p20) hy8))] hQ
 refine cD 0 [] e (fun hc7 e=>?_) fun hc7 e=>?_
 refine yE e (fun f1 p23 hy10 e=>?_) fun e15 p24 hy10 e=>?_
 exact mJ 1 [(1,fm (A5 _ _ (.ok f1 p23) hy10))] (hJ _ (oj e))
 cases e
 cases h
 exact rp 1 [(1,LP (A5 _ _ (.pan e15 p24) hy10))] hQ
 exact mJ 0 [] (hJ _ (oj e))
theorem Hk:∀ n:Nat,(∀ m,m<=n->∀ (p:Ae) (depth:Int) (r:(Ex Ap Ae Aa)),Av m p depth=some r->KE r (fun v0 s0=>CV Tryz.prog 147 [iP depth] [hT p.l,iP p.forms] (.ret (.agg [iP v0.Op,iP v0.N,tP v0.S,hX v0.Kids,iP v0.At])) [hT s0.l,iP s0.forms]) (fun e0 s0=>CV Tryz.prog 147 [iP depth] [hT p.l,iP p.forms] (.pan [{ v:=.iface 170 (.agg #[(.int .i64 e0.At),(.int .i64 e0.E)]),recovered:=false }]) [hT s0.l,iP s0.forms]))/\(∀ m,m<=n->∀ (p:Ae) (n_:Int) (depth:Int) (r:(Ex Ap Ae Aa)),A0 m p n_ depth=some r->KE r (fun v0 s0=>CV Tryz.prog 171 [iP n_,iP depth] [hT p.l,iP p.forms] (.ret (.agg [iP v0.Op,iP v0.N,tP v0.S,hX v0.Kids,iP v0.At])) [hT s0.l,iP s0.forms]) (fun e0 s0=>CV Tryz.prog 171 [iP n_,iP depth] [hT p.l,iP p.forms] (.pan [{ v:=.iface 170 (.agg #[(.int .i64 e0.At),(.int .i64 e0.E)]),recovered:=false }]) [hT s0.l,iP s0.forms]))/\(∀ m,m<=n->∀ (p:Ae) (depth:Int) (r:(Ex Ap Ae Aa)),AT m p depth=some r->KE r (fun v0 s0=>CV Tryz.prog 199 [iP depth] [hT p.l,iP p.forms] (.ret (.agg [iP v0.Op,iP v0.N,tP v0.S,hX v0.Kids,iP v0.At])) [hT s0.l,iP s0.forms]) (fun e0 s0=>CV Tryz.prog 199 [iP depth] [hT p.l,iP p.forms] (.pan [{ v:=.iface 170 (.agg #[(.int .i64 e0.At),(.int .i64 e0.E)]),recovered:=false }]) [hT s0.l,iP s0.forms]))/\(∀ m,m<=n->∀ (p:Ae) (depth:Int) (r:(Ex Ap Ae Aa)),AR m p depth=some r->KE r (fun v0 s0=>CV Tryz.prog 223 [iP depth] [hT p.l,iP p.forms] (.ret (.agg [iP v0.Op,iP v0.N,tP v0.S,hX v0.Kids,iP v0.At])) [hT s0.l,iP s0.forms]) (fun e0 s0=>CV Tryz.prog 223 [iP depth] [hT p.l,iP p.forms] (.pan [{ v:=.iface 170 (.agg #[(.int .i64 e0.At),(.int .i64 e0.E)]),recovered:=false }]) [hT s0.l,iP s0.forms]))
 |0=>⟨(fun m hm p depth r h=>by
  obtain rfl:m=0:=by omega
  exact absurd h (by simp [Av])),
  (fun m hm p n_ depth r h=>by
   obtain rfl:m=0:=by omega
   exact absurd h (by simp [A0])),
  (fun m hm p depth r h=>by
   obtain rfl:m=0:=by omega
   exact absurd h (by simp [AT])),
  (fun m hm p depth r h=>by
   obtain rfl:m=0:=by omega
   exact absurd h (by simp [AR]))⟩
 |n+1=>by
  have ih:=Hk n
  exact⟨fun m hm p depth r h=>by
   cases m with
   |zero=>exact absurd h (by simp [Av])
   |succ m=>exact Lo n (ih.1) (ih.2.1) (ih.2.2.1) (ih.2.2.2) m (by omega) p depth _ h,
  fun m hm p n_ depth r h=>by
   cases m with
   |zero=>exact absurd h (by simp [A0])
   |succ m=>exact Lf n (ih.1) (ih.2.1) (ih.2.2.1) (ih.2.2.2) m (by omega) p n_ depth _ h,
  fun m hm p depth r h=>by
   cases m with
   |zero=>exact absurd h (by simp [AT])
   |succ m=>exact M5 n (ih.1) (ih.2.1) (ih.2.2.1) (ih.2.2.2) m (by omega) p depth _ h,
  fun m hm p depth r h=>by
   cases m with
   |zero=>exact absurd h (by simp [AR])
   |succ m=>exact Lq n (ih.1) (ih.2.1) (ih.2.2.1) (ih.2.2.2) m (by omega) p depth _ h⟩
theorem I6 (n:Nat)(p:Ae)(depth:Int)(r:(Ex Ap Ae Aa))(h:Av n p depth=some r):KE r (fun v0 s0=>CV Tryz.prog 147 [iP depth] [hT p.l,iP p.forms] (.ret (.agg [iP v0.Op,iP v0.N,tP v0.S,hX v0.Kids,iP v0.At])) [hT s0.l,iP s0.forms]) (fun e0 s0=>CV Tryz.prog 147 [iP depth] [hT p.l,iP p.forms] (.pan [{ v:=.iface 170 (.agg #[(.int .i64 e0.At),(.int .i64 e0.E)]),recovered:=false }]) [hT s0.l,iP s0.forms]) :=
 (Hk n).1 n (Õ _) p depth r h
theorem F0 (n:Nat)(p:Ae)(r:(Ex Ap Ae Ao))(h:BV n p=some r):KE r (fun v0 s0=>CV Tryz.prog 122 [] [hT p.l,iP p.forms] (.ret (.agg [iP v0.Kind,iP v0.N,tP v0.S,iP v0.E.Op,iP v0.E.N,tP v0.E.S,hX v0.E.Kids,iP v0.E.At,iP v0.At])) [hT s0.l,iP s0.forms]) (fun e0 s0=>CV Tryz.prog 122 [] [hT p.l,iP p.forms] (.pan [{ v:=.iface 170 (.agg #[(.int .i64 e0.At),(.int .i64 e0.E)]),recovered:=false }]) [hT s0.l,iP s0.forms]):=by
 unfold BV at h
 refine vMx ⟨[0,2,3,4,15,18,19,26,29,37,40,43],[]⟩ Tryz.func122 follows fun Q hQ=>?_
 obtain⟨t,ht,h⟩:=Ad h
 refine cD 6 [(2,fm (AQ _ _ ht))] h (fun hc5 h=>?_) fun hc5 h=>?_
 cases h
 exact rt 2 [] hQ
 refine cD 1 [] h (fun hc4 h=>?_) fun hc4 h=>?_
 cases h
 exact rt 2 [] hQ
 refine cD 1 [] h (fun hc3 h=>?_) fun hc3 h=>?_
 cases h
 exact rt 2 [] hQ
 refine cD 4 [] h (fun hc2 h=>?_) fun hc2 h=>?_
 refine yE h (fun n_ p1 hy h=>?_) fun e p2 hy h=>?_
 cases h
 exact rt 2 [(1,fm (HH _ (.ok n_ p1) hy))] hQ
 cases h
 exact rp 1 [(1,LP (HH _ (.pan e p2) hy))] hQ
 refine cD 1 [] h (fun hc1 h=>?_) fun hc1 h=>?_
 cases h
 exact rt 2 [] hQ
 refine cD 1 [] h (fun hc h=>?_) fun hc h=>?_
 refine yE h (fun e1 p3 hy1 h=>?_) fun e2 p4 hy1 h=>?_
 refine wl 1 [(1,fm (I6 _ _ _ (.ok e1 p3) hy1))] ?_
 refine yE h (fun n_1 p5 hy2 h=>?_) fun e3 p6 hy2 h=>?_
 cases h
 exact rt 2 [(1,fm (Ck _ _ (.ok n_1 p5) hy2))] hQ
 cases h
 exact rp 1 [(1,LP (Ck _ _ (.pan e3 p6) hy2))] hQ
 cases h
 exact rp 1 [(1,LP (I6 _ _ _ (.pan e2 p4) hy1))] hQ
 cases h
 exact rt 1 [] hQ
theorem Ln (n0:Nat)
 (ih_parse_parser_form:∀ m,m<=n0->∀ (p:Ae) (depth:Int) (r:(Ex Ap Ae Ai)),Bf m p depth=some r->KE r (fun v0 s0=>CV Tryz.prog 69 [iP depth] [hT p.l,iP p.forms] (.ret (.agg [tP v0.Word,hA v0.Args,hF v0.Body,iP v0.At])) [hT s0.l,iP s0.forms]) (fun e0 s0=>CV Tryz.prog 69 [iP depth] [hT p.l,iP p.forms] (.pan [{ v:=.iface 170 (.agg #[(.int .i64 e0.At),(.int .i64 e0.E)]),recovered:=false }]) [hT s0.l,iP s0.forms]))
 (n:Nat) (hn:n<=n0) (p:Ae) (depth:Int) (r:(Ex Ap Ae Ai)) (h:Bf (n+1) p depth=some r):KE r (fun v0 s0=>CV Tryz.prog 69 [iP depth] [hT p.l,iP p.forms] (.ret (.agg [tP v0.Word,hA v0.Args,hF v0.Body,iP v0.At])) [hT s0.l,iP s0.forms]) (fun e0 s0=>CV Tryz.prog 69 [iP depth] [hT p.l,iP p.forms] (.pan [{ v:=.iface 170 (.agg #[(.int .i64 e0.At),(.int .i64 e0.E)]),recovered:=false }]) [hT s0.l,iP s0.forms]):=by
 replace h:=(Bf.eq_2 ..).symm.trans h
 refine vMx ⟨[0,1,4,5,6,14,32,49,57,63,76,80],[(13,[9999,1,0,0,1,2,3,4,5,6,7]),(17,[9999,1,0,0,1,2,3,4,5,6,7,8,9])]⟩ Tryz.func69 follows fun Q hQ=>?_
 obtain⟨x,hx,h⟩:=Ad h
 refine mI 2 [(5,fi Bh hx)] h (fun (p1,p2)=>⟨[(0,.ptr 0 0),(1,iP depth),(4,.ptr 1 0)],[[hT p1,iP p2],[tP ⟨#[]⟩,.sl [] .own,.sl [] .own,iP 0]]⟩) ?_ fun y e h hJ=>?_
 rintro⟨p1,p2⟩ h
 refine mE 1 [] h (fun v32=>⟨[(0,.ptr 0 0),(1,iP depth),(4,.ptr 1 0),(32,bP v32)],[[hT p1,iP (À (p2+1))],[tP ⟨#[]⟩,.sl [] .own,.sl [] .own,iP 0]]⟩) ?_ fun y1 e1 hJ1=>?_
 rintro v32 h
 refine mI 0 [] h (fun (p3,p4)=>⟨[(0,.ptr 0 0),(1,iP depth),(4,.ptr 1 0)],[[hT p3,iP p4],[tP ⟨#[]⟩,.sl [] .own,.sl [] .own,iP 0]]⟩) ?_ fun y2 e2 h hJ2=>?_
 rintro⟨p3,p4⟩ h
 obtain⟨t,ht,h⟩:=Ad h
 refine mI 2 [(1,fm (AQ _ _ ht))] h (fun (p5,p6,f)=>⟨[(0,.ptr 0 0),(1,iP depth),(4,.ptr 1 0),(6,.ptr 3 0)],[[hT p5,iP p6],[tP ⟨#[]⟩,.sl [] .own,.sl [] .own,iP 0],[iP t.1.Kind,iP t.1.At,tP t.1.S,iP t.1.N],[tP t.1.S,oA f,.sl [] .own,iP t.1.At]]⟩) ?_ fun y3 e3 h hJ3=>?_
 rintro⟨p5,p6,f⟩ h
 obtain⟨n_,hn_,h⟩:=Ad h
 refine cD 1 [(1,fm (AQ _ _ hn_))] h (fun hc1 h=>?_) fun hc1 h=>?_
 cases h
 exact rt 1 [] hQ
 refine mI 0 [] h (fun (p7,p8,f1)=>⟨[(0,.ptr 0 0),(4,.ptr 1 0),(6,.ptr 3 0)],[[hT p7,iP p8],[tP ⟨#[]⟩,.sl [] .own,.sl [] .own,iP 0],[iP t.1.Kind,iP t.1.At,tP t.1.S,iP t.1.N],[tP t.1.S,oA f,oF f1,iP t.1.At]]⟩) ?_ fun y4 e4 h hJ4=>?_
 rintro⟨p7,p8,f1⟩ h
 obtain⟨n_1,hn_1,h⟩:=Ad h
 cases h
 exact rt 2 [(1,fm (AQ _ _ hn_1))] hQ
 refine lR 1 [] (A:=((List Ab)×Int×(List Ai))) (fun n (p9,p10,f2)=>Bu n depth p9 p10 f2) (fun (p9,p10,f2)=>⟨[(0,.ptr 0 0),(1,iP depth),(4,.ptr 1 0),(6,.ptr 3 0)],[[hT p9,iP p10],[tP ⟨#[]⟩,.sl [] .own,.sl [] .own,iP 0],[iP t.1.Kind,iP t.1.At,tP t.1.S,iP t.1.N],[tP t.1.S,oA f,oF f2,iP t.1.At]]⟩) (n_.2.l,n_.2.forms,[]) hn e4 (fun _=>rfl) ?_
 rintro n ⟨p9,p10,f2⟩ hn e4 ih
 replace e4:=(Bu.eq_2 ..).symm.trans e4
 obtain⟨i,hi,e4⟩:=Ad e4
 refine cD 1 [(1,fm (Bg _ _ _ hi))] e4 (fun hc e4=>?_) fun hc e4=>?_
 refine wl 1 [] ?_
 refine yE e4 (fun f3 p11 hy5 e4=>?_) fun e5 p12 hy5 e4=>?_
 obtain⟨l,hl,e4⟩:=Ad e4
 obtain⟨l1,hl1,e4⟩:=Ad e4
 exact mJ 1 [(5,fm (ih_parse_parser_form _ hn _ _ (.ok f3 p11) hy5)),(0,fB Co hl),(0,fa Co hl1)] (ih (_,_,_) e4)
 cases e4
 cases h
 exact rp 1 [(5,LP (ih_parse_parser_form _ hn _ _ (.pan e5 p12) hy5))] hQ
 exact mJ 1 [] (hJ4 _ (oj e4))
 refine lR 1 [] (A:=((List Ab)×Int×(List Ao))) (fun n (p13,p14,f4)=>AU n p13 p14 f4) (fun (p13,p14,f4)=>⟨[(0,.ptr 0 0),(1,iP depth),(4,.ptr 1 0),(6,.ptr 3 0)],[[hT p13,iP p14],[tP ⟨#[]⟩,.sl [] .own,.sl [] .own,iP 0],[iP t.1.Kind,iP t.1.At,tP t.1.S,iP t.1.N],[tP t.1.S,oA f4,.sl [] .own,iP t.1.At]]⟩) (t.2.l,t.2.forms,[]) hn e3 (fun _=>rfl) ?_
 rintro n ⟨p13,p14,f4⟩ hn e3 ih1
 replace e3:=(AU.eq_2 ..).symm.trans e3
 refine mE 0 [] e3 (fun v49=>⟨[(0,.ptr 0 0),(1,iP depth),(4,.ptr 1 0),(6,.ptr 3 0),(49,bP v49)],[[hT p13,iP p14],[tP ⟨#[]⟩,.sl [] .own,.sl [] .own,iP 0],[iP t.1.Kind,iP t.1.At,tP t.1.S,iP t.1.N],[tP t.1.S,oA f4,.sl [] .own,iP t.1.At]]⟩) ?_ fun y6 e6 hJ5=>?_
 rintro v49 e3
 refine cD 0 [] e3 (fun hc5 e3=>?_) fun hc5 e3=>?_
 refine mE 1 [] e3 (fun v57=>⟨[(0,.ptr 0 0),(1,iP depth),(4,.ptr 1 0),(6,.ptr 3 0),(57,bP v57)],[[hT p13,iP p14],[tP ⟨#[]⟩,.sl [] .own,.sl [] .own,iP 0],[iP t.1.Kind,iP t.1.At,tP t.1.S,iP t.1.N],[tP t.1.S,oA f4,.sl [] .own,iP t.1.At]]⟩) ?_ fun y7 e7 hJ6=>?_
 rintro v57 e3
 refine mI 0 [] e3 (fun (p15,p16)=>⟨[(0,.ptr 0 0),(1,iP depth),(4,.ptr 1 0),(6,.ptr 3 0)],[[hT p15,iP p16],[tP ⟨#[]⟩,.sl [] .own,.sl [] .own,iP 0],[iP t.1.Kind,iP t.1.At,tP t.1.S,iP t.1.N],[tP t.1.S,oA f4,.sl [] .own,iP t.1.At]]⟩) ?_ fun y8 e8 e3 hJ7=>?_
 rintro⟨p15,p16⟩ e3
 refine cD 1 [(2,fl A9 f4)] e3 (fun hc2 e3=>?_) fun hc2 e3=>?_
 refine yE e3 (fun f5 p17 hy9 e3=>?_) fun e9 p18 hy9 e3=>?_
 refine wl 1 [(1,fm (A5 _ _ (.ok f5 p17) hy9))] ?_
 refine yE e3 (fun a_ p19 hy10 e3=>?_) fun e10 p20 hy10 e3=>?_
 obtain⟨l2,hl2,e3⟩:=Ad e3
 obtain⟨l3,hl3,e3⟩:=Ad e3
 exact mJ 1 [(3,fm (F0 _ _ (.ok a_ p19) hy10)),(0,Z6 A9 hl2),(0,fa A9 hl3)] (ih1 (_,_,_) e3)
 cases e3
 cases h
 exact rp 1 [(3,LP (F0 _ _ (.pan e10 p20) hy10))] hQ
 cases e3
 cases h
 exact rp 1 [(1,LP (A5 _ _ (.pan e9 p18) hy9))] hQ
 refine yE e3 (fun a_1 p21 hy11 e3=>?_) fun e11 p22 hy11 e3=>?_
 obtain⟨l4,hl4,e3⟩:=Ad e3
 obtain⟨l5,hl5,e3⟩:=Ad e3
 exact mJ 1 [(3,fm (F0 _ _ (.ok a_1 p21) hy11)),(0,Z6 A9 hl4),(0,fa A9 hl5)] (ih1 (_,_,_) e3)
 cases e3
 cases h
 exact rp 1 [(3,LP (F0 _ _ (.pan e11 p22) hy11))] hQ
 refine cD 0 [] e8 (fun hc3 e8=>?_) fun hc3 e8=>?_
 refine yE e8 (fun f6 p23 hy12 e8=>?_) fun e12 p24 hy12 e8=>?_
 exact mJ 1 [(1,fm (A5 _ _ (.ok f6 p23) hy12))] (hJ7 _ (oj e8))
 cases e8
 cases e3
 cases h
 exact rp 1 [(1,LP (A5 _ _ (.pan e12 p24) hy12))] hQ
 exact mJ 0 [] (hJ7 _ (oj e8))
 obtain⟨b,hb,e7⟩:=Ad e7
 rcases An e7 with⟨hc4,e7⟩|⟨hc4,e7⟩
 obtain⟨i1,hi1,e7⟩:=Ad e7
 exact mJ 1 [(1,fm (CD _ _ hb)),(1,fo hc4),(1,fm (Bg _ _ _ hi1))] (hJ6 _ (oj e7))
 exact mJ 1 [(1,fm (CD _ _ hb)),(1,fo hc4)] (hJ6 _ (oj e7))
 exact mJ 1 [] (hJ3 _ (oj e3))
 obtain⟨i2,hi2,e6⟩:=Ad e6
 rcases An e6 with⟨hc6,e6⟩|⟨hc6,e6⟩
 obtain⟨i3,hi3,e6⟩:=Ad e6
 exact mJ 1 [(1,fm (Bg _ _ _ hi2)),(1,fo hc6),(1,fm (Bg _ _ _ hi3))] (hJ5 _ (oj e6))
 exact mJ 1 [(1,fm (Bg _ _ _ hi2)),(1,fo hc6)] (hJ5 _ (oj e6))
 refine cD 0 [] e2 (fun hc7 e2=>?_) fun hc7 e2=>?_
 refine yE e2 (fun f7 p25 hy13 e2=>?_) fun e13 p26 hy13 e2=>?_
 exact mJ 1 [(1,fm (A5 _ _ (.ok f7 p25) hy13))] (hJ2 _ (oj e2))
 cases e2
 cases h
 exact rp 1 [(1,LP (A5 _ _ (.pan e13 p26) hy13))] hQ
 exact mJ 0 [] (hJ2 _ (oj e2))
 rcases An e1 with⟨hc8,e1⟩|⟨hc8,e1⟩
 exact mJ 1 [(2,fo hc8)] (hJ1 _ (oj e1))
 exact mJ 1 [(2,fo hc8)] (hJ1 _ (oj e1))
 refine cD 0 [] e (fun hc9 e=>?_) fun hc9 e=>?_
 refine yE e (fun f8 p27 hy14 e=>?_) fun e14 p28 hy14 e=>?_
 exact mJ 1 [(1,fm (A5 _ _ (.ok f8 p27) hy14))] (hJ _ (oj e))
 cases e
 cases h
 exact rp 1 [(1,LP (A5 _ _ (.pan e14 p28) hy14))] hQ
 exact mJ 0 [] (hJ _ (oj e))
theorem Hj:∀ n:Nat,(∀ m,m<=n->∀ (p:Ae) (depth:Int) (r:(Ex Ap Ae Ai)),Bf m p depth=some r->KE r (fun v0 s0=>CV Tryz.prog 69 [iP depth] [hT p.l,iP p.forms] (.ret (.agg [tP v0.Word,hA v0.Args,hF v0.Body,iP v0.At])) [hT s0.l,iP s0.forms]) (fun e0 s0=>CV Tryz.prog 69 [iP depth] [hT p.l,iP p.forms] (.pan [{ v:=.iface 170 (.agg #[(.int .i64 e0.At),(.int .i64 e0.E)]),recovered:=false }]) [hT s0.l,iP s0.forms]))
 |0=>(fun m hm p depth r h=>by
  obtain rfl:m=0:=by omega
  exact absurd h (by simp [Bf]))
 |n+1=>by
  have ih:=Hj n
  exact fun m hm p depth r h=>by
   cases m with
   |zero=>exact absurd h (by simp [Bf])
   |succ m=>exact Ln n (ih) m (by omega) p depth _ h
theorem EO (n:Nat)(p:Ae)(depth:Int)(r:(Ex Ap Ae Ai))(h:Bf n p depth=some r):KE r (fun v0 s0=>CV Tryz.prog 69 [iP depth] [hT p.l,iP p.forms] (.ret (.agg [tP v0.Word,hA v0.Args,hF v0.Body,iP v0.At])) [hT s0.l,iP s0.forms]) (fun e0 s0=>CV Tryz.prog 69 [iP depth] [hT p.l,iP p.forms] (.pan [{ v:=.iface 170 (.agg #[(.int .i64 e0.At),(.int .i64 e0.E)]),recovered:=false }]) [hT s0.l,iP s0.forms]) :=
 (Hj n) n (Õ _) p depth r h
end Go.Proofs.YtkcfmlfkfagejaaGreatDoor
