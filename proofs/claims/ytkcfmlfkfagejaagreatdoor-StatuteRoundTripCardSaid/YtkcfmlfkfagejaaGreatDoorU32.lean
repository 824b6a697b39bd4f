/-
  The walks of chapter 33: Forms and Print: the program computes the plain functions. (Printed by lift.py.)
-/
import Derived.Test.YtkcfmlfkfagejaaGreatDoorU31
set_option linter.unusedVariables false
set_option linter.unusedSimpArgs false
namespace Go.Proofs.YtkcfmlfkfagejaaGreatDoor
open Go.RowKit Go.Q Go.Vl Go.Sp
set_option maxRecDepth 100000
set_option linter.unusedSimpArgs false
set_option maxHeartbeats 4000000
set_option linter.unusedVariables false
theorem Jg (n:Nat)(q:Int)(q1:Int)(out:(List Ai))(bad:Int)(bad1:Int)(q2:(List Ab))(q3:Int)(r:(Ex Ap ((List Ai)×(List Ab)×Int) Unit))(h:Gb n q q1 out bad bad1 q2 q3=some r):KE r (fun v0 s0=>M9 Tryz.prog 68 [.ptr 3 0,.ptr 1 0] [[iP q,iP q1],[oF out],[iP bad,iP bad1],[hT q2,iP q3]] (.ret (.tup [])) [[iP q,iP q1],[oF s0.1],[iP bad,iP bad1],[hT s0.2.1,iP s0.2.2]]) (fun e0 s0=>M9 Tryz.prog 68 [.ptr 3 0,.ptr 1 0] [[iP q,iP q1],[oF out],[iP bad,iP bad1],[hT q2,iP q3]] (.pan [{ v:=.iface 170 (.agg #[(.int .i64 e0.At),(.int .i64 e0.E)]),recovered:=false }]) [[iP q,iP q1],[oF s0.1],[iP bad,iP bad1],[hT s0.2.1,iP s0.2.2]]):=by
 unfold Gb at h
 refine vSx ⟨[0,1,10],[(1,[9997,1,3,0,1,3,2,4,5,6,7,8])]⟩ Tryz.func68 follows fun Q hQ=>?_
 refine mI 0 [] h (fun (out1,q4,q5)=>⟨[],[[iP q,iP q1],[oF out1],[iP bad,iP bad1],[hT q4,iP q5]]⟩) ?_ fun y e h hJ=>?_
 rintro⟨out1,q4,q5⟩ h
 cases h
 exact rt 0 [] hQ
 refine lF 1 [] (A:=((List Ai)×(List Ab)×Int)) (fun n (out2,q6,q7)=>B5 n out2 q6 q7) (fun (out2,q6,q7)=>⟨[(0,.ptr 3 0),(1,.ptr 1 0)],[[iP q,iP q1],[oF out2],[iP bad,iP bad1],[hT q6,iP q7]]⟩) (out,q2,q3) e (fun _=>rfl) ?_
 rintro n ⟨out2,q6,q7⟩ e ih
 replace e:=(B5.eq_2 ..).symm.trans e
 obtain⟨x,hx,e⟩:=Ad e
 refine cD 1 [(4,fi Bh hx)] e (fun hc e=>?_) fun hc e=>?_
 refine wl 1 [] ?_
 refine yE e (fun f s hy1 e=>?_) fun e1 s1 hy1 e=>?_
 obtain⟨out3,hout3,e⟩:=Ad e
 refine xG [3] [0,1,3] 2 4 5 6 7 8 [.no,.no,.val (iP (out2.length:Int))] (.meth (.agg [tP f.Word,hA f.Args,hF f.Body,iP f.At]) [hT s.l,iP s.forms]) .no (out3.map C6) ⟨[(0,.ptr 3 0),(1,.ptr 1 0)],[[iP q,iP q1],[oF out3],[iP bad,iP bad1],[hT s.l,iP s.forms]]⟩ (And.intro (And.intro (YQ out2 C6) True.intro) (And.intro (And.intro (And.intro (EO n (Ae.mk q6 q7) 1 (.ok f s) hy1) True.intro) (Afj hout3 Hr (Gu f))) (And.intro (And.intro (EO n (Ae.mk q6 q7) 1 (.ok f s) hy1) True.intro) (Afj hout3 Hr (Gu f))))) ?_
 exact mJ 0 [] (ih (_,_,_) e)
 cases e
 cases h
 exact xGP [3] [0,1,3] 2 4 5 6 7 8 [.no,.no,.val (iP (out2.length:Int))] (.mpan [{ v:=.iface 170 (.agg #[(.int .i64 e1.At),(.int .i64 e1.E)]),recovered:=false }] [hT s1.l,iP s1.forms]) .no (And.intro (And.intro (YQ out2 C6) True.intro) (And.intro (And.intro (EO n (Ae.mk q6 q7) 1 (.pan e1 s1) hy1) True.intro) (And.intro (EO n (Ae.mk q6 q7) 1 (.pan e1 s1) hy1) True.intro))) hQ
 exact mJ 1 [] (hJ _ (oj e))
theorem KI (d0:Int)(d1:Int)(d2:(List Ai))(d3:Int)(d4:Int)(d5:(List Ab))(d6:Int):Tc Tryz.prog 117 [.ptr 2 0] [[iP d0,iP d1],[oF d2],[iP d3,iP d4],[hT d5,iP d6]] .returning (fun y u' σ'=>u'=.returning/\y=.ret (.tup [])/\σ'=[[iP d0,iP d1],[oF d2],[iP d3,iP d4],[hT d5,iP d6]]):=by
 refine Tc.intro (rv:=.nilIface) ⟨[0,1,2,3,6,13],[]⟩ Tryz.func117 rfl follows rfl (fun _ _=>rfl) rfl rfl (.inl ⟨rfl,rfl,rfl⟩) (by kernel_rfl) ?_
 refine Ah5 [0,1,2,3,6,13] [0,1] [.no] ⟨[(0,.ptr 2 0),(1,.lit .nilIface)],[[iP d0,iP d1],[oF d2],[iP d3,iP d4],[hT d5,iP d6]]⟩ True.intro (by kernel_rfl) ?_
 repeat first|apply z1|apply z2|apply z3|apply z4
 refine wr [0,1,6] 4 (E6 2 []) ⟨[(0,.ptr 2 0),(1,.lit .nilIface),(6,bP false)],[[iP d0,iP d1],[oF d2],[iP d3,iP d4],[hT d5,iP d6]]⟩ True.intro (by kernel_rfl) ?_
 repeat first|apply z1|apply z2|apply z3|apply z4
 refine Fb rfl ?_
 repeat first|apply z1|apply z2|apply z3|apply z4
 exact KD (Vb (by rintro y rfl;exact⟨rfl,rfl,rfl⟩) (by kernel_rfl)).1
theorem KH (d0:Int)(d1:Int)(d2:(List Ai))(d3:Int)(d4:Int)(d5:(List Ab))(d6:Int)(e0:Ap):Tc Tryz.prog 117 [.ptr 2 0] [[iP d0,iP d1],[oF d2],[iP d3,iP d4],[hT d5,iP d6]] (.panicking [{ v:=.iface 170 (.agg #[(.int .i64 e0.At),(.int .i64 e0.E)]),recovered:=false }]) (fun y u' σ'=>settle u'=.returning/\y=.ret (.tup [])/\σ'=[[iP d0,iP d1],[oF d2],[iP e0.At,iP e0.E],[hT d5,iP d6]]):=by
 refine Tc.intro (rv:=(.iface 170 (.agg #[(.int .i64 e0.At),(.int .i64 e0.E)]))) ⟨[0,1,2,3,6,13],[]⟩ Tryz.func117 rfl follows rfl (fun _ _=>rfl) rfl rfl (.inr ⟨[],rfl,rfl⟩) (by kernel_rfl) ?_
 refine Ah5 [0,1,2,3,6,13] [0,1] [.no] ⟨[(0,.ptr 2 0),(1,.lit (.iface 170 (.agg #[(.int .i64 e0.At),(.int .i64 e0.E)])))],[[iP d0,iP d1],[oF d2],[iP d3,iP d4],[hT d5,iP d6]]⟩ True.intro (by kernel_rfl) ?_
 repeat first|apply z1|apply z2|apply z3|apply z4
 refine wr [0,1,6] 4 (E6 2 []) ⟨[(0,.ptr 2 0),(1,.lit (.iface 170 (.agg #[(.int .i64 e0.At),(.int .i64 e0.E)]))),(6,bP true)],[[iP d0,iP d1],[oF d2],[iP d3,iP d4],[hT d5,iP d6]]⟩ True.intro (by kernel_rfl) ?_
 repeat first|apply z1|apply z2|apply z3|apply z4
 refine Hf rfl ?_
 repeat first|apply z1|apply z2|apply z3|apply z4
 refine wr [0,1,2,3] 5 (E6 8 []) ⟨[(0,.ptr 2 0),(1,.lit (.iface 170 (.agg #[(.int .i64 e0.At),(.int .i64 e0.E)]))),(2,.ptr 4 0),(3,bP true)],[[iP d0,iP d1],[oF d2],[iP d3,iP d4],[hT d5,iP d6],[iP e0.At,iP e0.E]]⟩ True.intro (by kernel_rfl) ?_
 repeat first|apply z1|apply z2|apply z3|apply z4
 refine wr [0,1,2,13] 5 (E6 2 []) ⟨[(0,.ptr 2 0),(1,.lit (.iface 170 (.agg #[(.int .i64 e0.At),(.int .i64 e0.E)]))),(2,.ptr 4 0),(13,bP false)],[[iP d0,iP d1],[oF d2],[iP d3,iP d4],[hT d5,iP d6],[iP e0.At,iP e0.E]]⟩ True.intro (by kernel_rfl) ?_
 repeat first|apply z1|apply z2|apply z3|apply z4
 refine Fb rfl ?_
 repeat first|apply z1|apply z2|apply z3|apply z4
 refine wr [] 5 (E6 2 []) ⟨[],[[iP d0,iP d1],[oF d2],[iP e0.At,iP e0.E],[hT d5,iP d6],[iP e0.At,iP e0.E]]⟩ True.intro (by kernel_rfl) ?_
 repeat first|apply z1|apply z2|apply z3|apply z4
 exact KD (Vb (by rintro y rfl;exact⟨rfl,rfl,rfl⟩) (by kernel_rfl)).1
theorem MR (n:Nat)(q:Int)(q1:Int)(out:(List Ai))(src:Â)(r:(Am×(List Ai)))(h:Ea n q q1 out src=some r)(Q:CP->List (List PV)->Prop)(hQ:∀ y,shareP y=.agg [iP r.1.At,iP r.1.E]->Q (.ret y) [[iP q,iP q1],[oF r.2]]) :
 VC Tryz.prog 67 [tP src,.fn 68 [.ptr 1 0]] [[iP q,iP q1],[oF out]] Q:=by
 unfold Ea at h
 refine VC.introD [4] ⟨[0,1,4,5,6,14,30],[]⟩ Tryz.func67 rfl follows rfl rfl (by kernel_rfl) ?_
 show WS _ _ _ (_::_) _ _
 repeat first|apply z1|apply z2|apply z3|apply z4
 refine wr [0,1,4] 3 (E6 1 []) ⟨[(0,tP src),(1,.fn 68 [.ptr 1 0]),(4,.ptr 2 0)],[[iP q,iP q1],[oF out],[iP 0,iP 0]]⟩ True.intro (by kernel_rfl) ?_
 repeat first|apply z1|apply z2|apply z3|apply z4
 obtain⟨t,ht,h⟩:=Ad h
 refine wr [0,1,4,5] 3 (E6 1 (.call (.tup [hT t.1,.agg [iP t.2.At,iP t.2.E]])::(E6 5 []))) ⟨[(0,tP src),(1,.fn 68 [.ptr 1 0]),(4,.ptr 2 0),(5,hT t.1)],[[iP q,iP q1],[oF out],[iP t.2.At,iP t.2.E]]⟩ (And.intro (ZB src t ht) True.intro) (by kernel_rfl) ?_
 repeat first|apply z1|apply z2|apply z3|apply z4
 refine wr [0,1,4,5,14] 3 (E6 3 []) ⟨[(0,tP src),(1,.fn 68 [.ptr 1 0]),(4,.ptr 2 0),(5,hT t.1),(14,bP (t.2.E != 0))],[[iP q,iP q1],[oF out],[iP t.2.At,iP t.2.E]]⟩ True.intro (by kernel_rfl) ?_
 repeat first|apply z1|apply z2|apply z3|apply z4
 rcases An h with⟨hc1,h⟩|⟨hc1,h⟩
 . refine Hf (test hc1) ?_
   repeat first|apply z1|apply z2|apply z3|apply z4
   refine wr [0,1,4,5,14] 3 (E6 2 []) ⟨[(0,tP src),(1,.fn 68 [.ptr 1 0]),(4,.ptr 2 0),(5,hT t.1),(14,bP (t.2.E != 0))],[[iP q,iP q1],[oF out],[iP t.2.At,iP t.2.E]]⟩ True.intro (by kernel_rfl) ?_
   repeat first|apply z1|apply z2|apply z3|apply z4
   obtain rfl:=Ac h
   exact KD (HM hQ (by kernel_rfl)).1
 . refine Fb (test hc1) ?_
   repeat first|apply z3|apply z2|apply z1|apply z4
   refine Ahp (Bx.mk ?_)
   show WS _ _ _ _ _ ⟨(16,.fn 117 [.ptr 2 0])::[(0,tP src),(1,.fn 68 [.ptr 1 0]),(4,.ptr 2 0),(5,hT t.1),(14,bP (t.2.E != 0))],[[iP q,iP q1],[oF out],[iP t.2.At,iP t.2.E]]⟩
   repeat first|apply z1|apply z2|apply z3|apply z4
   refine wr [1,4,6] 4 (E6 4 []) ⟨[(1,.fn 68 [.ptr 1 0]),(4,.ptr 2 0),(6,.ptr 3 0)],[[iP q,iP q1],[oF out],[iP t.2.At,iP t.2.E],[hT t.1,iP 0]]⟩ True.intro (by kernel_rfl) ?_
   repeat first|apply z1|apply z2|apply z3|apply z4
   obtain⟨y,hy,h⟩:=Ad h
   rcases y with⟨f,c⟩|⟨e,c1⟩
   . refine wr [4,6] 4 (E6 2 (.site (.tup []) [[iP q,iP q1],[oF c.1],[iP t.2.At,iP t.2.E],[hT c.2.1,iP c.2.2]]::[])) ⟨[(4,.ptr 2 0),(6,.ptr 3 0)],[[iP q,iP q1],[oF c.1],[iP t.2.At,iP t.2.E],[hT c.2.1,iP c.2.2]]⟩ (And.intro (Jg n q q1 out t.2.At t.2.E t.1 0 (.ok f c) hy) True.intro) (by kernel_rfl) ?_
     repeat first|apply z1|apply z2|apply z3|apply z4
     obtain⟨x,hx,h⟩:=Ad h
     refine wr [4,6,30] 4 (E6 4 (.val (.vptr [iP x.Kind,iP x.At,tP x.S,iP x.N] 0)::(E6 3 []))) ⟨[(4,.ptr 2 0),(6,.ptr 3 0),(30,bP (x.Kind != 5))],[[iP q,iP q1],[oF c.1],[iP t.2.At,iP t.2.E],[hT c.2.1,iP c.2.2]]⟩ (And.intro (oi hx Jj (JC x)) True.intro) (by kernel_rfl) ?_
     repeat first|apply z1|apply z2|apply z3|apply z4
     rcases An h with⟨hc,h⟩|⟨hc,h⟩
     . refine Hf (test hc) ?_
       repeat first|apply z1|apply z2|apply z3|apply z4
       obtain⟨y1,hy1,h⟩:=Ad h
       rcases y1 with⟨f1,s⟩|⟨e1,s1⟩
       . refine wr [4] 4 (E6 1 (.meth (.tup []) [hT s.l,iP s.forms]::[])) ⟨[(4,.ptr 2 0)],[[iP q,iP q1],[oF c.1],[iP t.2.At,iP t.2.E],[hT s.l,iP s.forms]]⟩ (And.intro (A5 (Ae.mk c.2.1 c.2.2) 5 (.ok f1 s) hy1) True.intro) (by kernel_rfl) ?_
         repeat first|apply z1|apply z2|apply z3|apply z4
         refine wr [4] 4 (E6 2 []) ⟨[(4,.ptr 2 0)],[[iP q,iP q1],[oF c.1],[iP 0,iP 0],[hT s.l,iP s.forms]]⟩ True.intro (by kernel_rfl) ?_
         repeat first|apply z1|apply z2|apply z3|apply z4
         obtain rfl:=Ac h
         exact KD (Tc.mono (KI q q1 c.1 0 0 s.l s.forms) fun y u' σ' hx=>⟨hx.1,⟨_,hx.2.1⟩,by rw [hx.2.2];exact (HM hQ (by kernel_rfl)).1⟩)
       . repeat first|apply z1|apply z2|apply z3|apply z4
         obtain rfl:=Ac h
         exact Wn [4] (E6 1 (.mpan [{ v:=.iface 170 (.agg #[(.int .i64 e1.At),(.int .i64 e1.E)]),recovered:=false }] [hT s1.l,iP s1.forms]::[])) ⟨[(4,.ptr 2 0)],[[iP q,iP q1],[oF c.1],[iP t.2.At,iP t.2.E],[hT s1.l,iP s1.forms]]⟩ (And.intro (A5 (Ae.mk c.2.1 c.2.2) 5 (.pan e1 s1) hy1) True.intro) (by kernel_rfl) rfl (Tc.mono (KH q q1 c.1 t.2.At t.2.E s1.l s1.forms e1) fun y u' σ' hx=>⟨hx.1,⟨_,hx.2.1⟩,by rw [hx.2.2];exact (HM hQ (by kernel_rfl)).1⟩)
     . refine Fb (test hc) ?_
       repeat first|apply z1|apply z2|apply z3|apply z4
       refine wr [4] 4 (E6 2 []) ⟨[(4,.ptr 2 0)],[[iP q,iP q1],[oF c.1],[iP 0,iP 0],[hT c.2.1,iP c.2.2]]⟩ True.intro (by kernel_rfl) ?_
       repeat first|apply z1|apply z2|apply z3|apply z4
       obtain rfl:=Ac h
       exact KD (Tc.mono (KI q q1 c.1 0 0 c.2.1 c.2.2) fun y u' σ' hx=>⟨hx.1,⟨_,hx.2.1⟩,by rw [hx.2.2];exact (HM hQ (by kernel_rfl)).1⟩)
   . repeat first|apply z1|apply z2|apply z3|apply z4
     obtain rfl:=Ac h
     exact Wn [4] (E6 2 (.sitep [{ v:=.iface 170 (.agg #[(.int .i64 e.At),(.int .i64 e.E)]),recovered:=false }] [[iP q,iP q1],[oF c1.1],[iP t.2.At,iP t.2.E],[hT c1.2.1,iP c1.2.2]]::[])) ⟨[(4,.ptr 2 0)],[[iP q,iP q1],[oF c1.1],[iP t.2.At,iP t.2.E],[hT c1.2.1,iP c1.2.2]]⟩ (And.intro (Jg n q q1 out t.2.At t.2.E t.1 0 (.pan e c1) hy) True.intro) (by kernel_rfl) rfl (Tc.mono (KH q q1 c1.1 t.2.At t.2.E c1.2.1 c1.2.2 e) fun y u' σ' hx=>⟨hx.1,⟨_,hx.2.1⟩,by rw [hx.2.2];exact (HM hQ (by kernel_rfl)).1⟩)
theorem Om (n:Nat)(q:Int)(q1:Int)(out:(List Ai))(src:Â)(r:(Am×(List Ai)))(h:Ea n q q1 out src=some r):M9 Tryz.prog 67 [tP src,.fn 68 [.ptr 1 0]] [[iP q,iP q1],[oF out]] (.ret (.agg [iP r.1.At,iP r.1.E])) [[iP q,iP q1],[oF r.2]]:=M9.fin (fun Q hQ=>MR n q q1 out src _ h Q hQ)
theorem Nz (n:Nat)(src:Â)(r:((List Ai)×Am))(h:Dk n src=some r):CZ Tryz.prog 40 [tP src] (.tup [hF r.1,.agg [iP r.2.At,iP r.2.E]]):=by
 unfold Dk at h
 refine vP ⟨[0,2,3,4,5,11],[]⟩ Tryz.func40 follows fun Q hQ=>?_
 obtain⟨bad,hbad,h⟩:=Ad h
 refine cD 4 [(5,fs (Om _ _ _ _ _ _ hbad))] h (fun hc h=>?_) fun hc h=>?_
 cases h
 exact rt 1 [] hQ
 cases h
 exact rt 1 [] hQ
theorem Ld (n0:Nat)
 (ih_parse_printer_form:∀ m,m<=n0->∀ (p:Aj) (f:Ai) (r:(Unit×Aj)),Bz m p f=some r->CV Tryz.prog 65 [.agg [tP f.Word,hA f.Args,hF f.Body,iP f.At]] [oT p.l,bP p.bad] (.ret (.tup [])) [oT r.2.l,bP r.2.bad])
 (n:Nat) (hn:n<=n0) (p:Aj) (f:Ai) (r:(Unit×Aj)) (h:Bz (n+1) p f=some r):CV Tryz.prog 65 [.agg [tP f.Word,hA f.Args,hF f.Body,iP f.At]] [oT p.l,bP p.bad] (.ret (.tup [])) [oT r.2.l,bP r.2.bad]:=by
 replace h:=(Bz.eq_2 ..).symm.trans h
 refine vM ⟨[0,1,3,5,7,13,14,15,16,20,24,30,34,60,66,71,87,95,96,97,98],[]⟩ Tryz.func65 follows fun Q hQ=>?_
 obtain⟨n_,hn_,h⟩:=Ad h
 refine mE 3 [(4,fm (E5 _ _ _ _ hn_)),(2,fl A9 f.Args)] h (fun (p1,p2)=>⟨[(0,.ptr 0 0),(3,.ptr 1 0)],[[oT p1,bP p2],[tP f.Word,hA f.Args,hF f.Body,iP f.At]]⟩) ?_ fun y e hJ=>?_
 rintro⟨p1,p2⟩ h
 refine cD 1 [(2,fl Co f.Body)] h (fun hc1 h=>?_) fun hc1 h=>?_
 obtain⟨l,hl,h⟩:=Ad h
 obtain⟨s,hs,h⟩:=Ad h
 cases h
 exact rt 1 [(1,fB Bv hl),(0,fm (AA _ _ _ _ hs))] hQ
 obtain⟨l1,hl1,h⟩:=Ad h
 obtain⟨s1,hs1,h⟩:=Ad h
 refine mE 2 [(1,fB Bv hl1),(0,fm (AA _ _ _ _ hs1)),(2,fl Co f.Body)] h (fun (p3,p4)=>⟨[(0,.ptr 0 0)],[[oT p3,bP p4],[tP f.Word,hA f.Args,hF f.Body,iP f.At]]⟩) ?_ fun y1 e1 hJ1=>?_
 rintro⟨p3,p4⟩ h
 obtain⟨l2,hl2,h⟩:=Ad h
 obtain⟨s2,hs2,h⟩:=Ad h
 cases h
 exact rt 1 [(1,fB Bv hl2),(0,fm (AA _ _ _ _ hs2))] hQ
 refine lR 1 [] (A:=(Int×(List Ab)×Bool)) (fun n (v97,p5,p6)=>Cd n f v97 p5 p6) (fun (v97,p5,p6)=>⟨[(0,.ptr 0 0),(95,hF f.Body),(96,iP (f.Body.length:Int)),(97,iP v97)],[[oT p5,bP p6],[tP f.Word,hA f.Args,hF f.Body,iP f.At]]⟩) (0,s1.2.l,s1.2.bad) hn e1 (fun _=>rfl) ?_
 rintro n ⟨v97,p5,p6⟩ hn e1 ih
 replace e1:=(Cd.eq_2 ..).symm.trans e1
 refine cD 1 [] e1 (fun hc e1=>?_) fun hc e1=>?_
 obtain⟨x,hx,e1⟩:=Ad e1
 obtain⟨f1,hf1,e1⟩:=Ad e1
 exact mJ 4 [(0,fi Co hx),(5,fm (ih_parse_printer_form _ hn _ _ _ hf1))] (ih (_,_,_) e1)
 exact mJ 1 [] (hJ1 _ (oj e1))
 refine lR 1 [] (A:=(Int×(List Ab)×Bool)) (fun n (v15,p7,p8)=>AG n f v15 p7 p8) (fun (v15,p7,p8)=>⟨[(0,.ptr 0 0),(3,.ptr 1 0),(13,hA f.Args),(14,iP (f.Args.length:Int)),(15,iP v15)],[[oT p7,bP p8],[tP f.Word,hA f.Args,hF f.Body,iP f.At]]⟩) (0,n_.2.l,n_.2.bad) hn e (fun _=>rfl) ?_
 rintro n ⟨v15,p7,p8⟩ hn e ih1
 replace e:=(AG.eq_2 ..).symm.trans e
 refine cD 1 [] e (fun hc9 e=>?_) fun hc9 e=>?_
 obtain⟨x1,hx1,e⟩:=Ad e
 refine cD 5 [(0,fi A9 hx1)] e (fun hc8 e=>?_) fun hc8 e=>?_
 obtain⟨n_1,hn_1,e⟩:=Ad e
 exact mJ 2 [(3,fm (E5 _ _ _ _ hn_1))] (ih1 (_,_,_) e)
 refine cD 1 [] e (fun hc7 e=>?_) fun hc7 e=>?_
 refine cD 1 [] e (fun hc3 e=>?_) fun hc3 e=>?_
 obtain⟨l3,hl3,e⟩:=Ad e
 obtain⟨s3,hs3,e⟩:=Ad e
 obtain⟨n_2,hn_2,e⟩:=Ad e
 refine mE 2 [(1,fB Bv hl3),(0,fm (AA _ _ _ _ hs3)),(5,fm (Fg _ _ _ hn_2))] e (fun p9=>⟨[(0,.ptr 0 0),(3,.ptr 1 0),(5,.ptr 2 0),(13,hA f.Args),(14,iP (f.Args.length:Int)),(15,iP v15)],[[oT n_2.2.l,bP p9],[tP f.Word,hA f.Args,hF f.Body,iP f.At],[iP x1.Kind,iP x1.N,tP x1.S,iP x1.E.Op,iP x1.E.N,tP x1.E.S,hX x1.E.Kids,iP x1.E.At,iP x1.At]]⟩) ?_ fun y2 e2 hJ2=>?_
 rintro p9 e
 exact mJ 2 [] (ih1 (_,_,_) e)
 rcases An e2 with⟨hc2,e2⟩|⟨hc2,e2⟩
 exact mJ 1 [(5,fo hc2)] (hJ2 _ (oj e2))
 exact mJ 1 [(5,fo hc2)] (hJ2 _ (oj e2))
 obtain⟨n_3,hn_3,e⟩:=Ad e
 exact mJ 2 [(3,fm (Fg _ _ _ hn_3))] (ih1 (_,_,_) e)
 refine cD 1 [] e (fun hc6 e=>?_) fun hc6 e=>?_
 obtain⟨t,ht,e⟩:=Ad e
 exact mJ 2 [(3,fm (Ie _ _ _ _ ht))] (ih1 (_,_,_) e)
 refine cD 1 [] e (fun hc5 e=>?_) fun hc5 e=>?_
 obtain⟨l4,hl4,e⟩:=Ad e
 obtain⟨s4,hs4,e⟩:=Ad e
 exact mJ 2 [(1,fB Bv hl4),(0,fm (AA _ _ _ _ hs4))] (ih1 (_,_,_) e)
 refine cD 1 [] e (fun hc4 e=>?_) fun hc4 e=>?_
 obtain⟨l5,hl5,e⟩:=Ad e
 obtain⟨s5,hs5,e⟩:=Ad e
 obtain⟨e3,he3,e⟩:=Ad e
 obtain⟨l6,hl6,e⟩:=Ad e
 obtain⟨s6,hs6,e⟩:=Ad e
 exact mJ 4 [(1,fB Bv hl5),(0,fm (AA _ _ _ _ hs5)),(3,fm (M4 _ _ _ _ he3)),(1,fB Bv hl6),(0,fm (AA _ _ _ _ hs6))] (ih1 (_,_,_) e)
 exact mJ 2 [] (ih1 (_,_,_) e)
 exact mJ 1 [] (hJ _ (oj e))
theorem GU:∀ n:Nat,(∀ m,m<=n->∀ (p:Aj) (f:Ai) (r:(Unit×Aj)),Bz m p f=some r->CV Tryz.prog 65 [.agg [tP f.Word,hA f.Args,hF f.Body,iP f.At]] [oT p.l,bP p.bad] (.ret (.tup [])) [oT r.2.l,bP r.2.bad])
 |0=>(fun m hm p f r h=>by
  obtain rfl:m=0:=by omega
  exact absurd h (by simp [Bz]))
 |n+1=>by
  have ih:=GU n
  exact fun m hm p f r h=>by
   cases m with
   |zero=>exact absurd h (by simp [Bz])
   |succ m=>exact Ld n (ih) m (by omega) p f _ h
theorem M3 (n:Nat)(p:Aj)(f:Ai)(r:(Unit×Aj))(h:Bz n p f=some r):CV Tryz.prog 65 [.agg [tP f.Word,hA f.Args,hF f.Body,iP f.At]] [oT p.l,bP p.bad] (.ret (.tup [])) [oT r.2.l,bP r.2.bad] :=
 (GU n) n (Õ _) p f r h
theorem Tf (n:Nat)(l:(List Ai))(r:(ByteArray×Int))(h:Jl n l=some r):CZ Tryz.prog 39 [hF l] (.tup [tP r.1,iP r.2]):=by
 unfold Jl at h
 refine vP ⟨[0,2,3,4,6,7,9,12,13,14,15,25,38],[]⟩ Tryz.func39 follows fun Q hQ=>?_
 refine mE 3 [(6,fl Co l)] h (fun (q,q1)=>⟨[(2,tP ⟨#[]⟩),(3,iP 0),(4,.ptr 0 0)],[[oT q,bP q1]]⟩) ?_ fun y e hJ=>?_
 rintro⟨q,q1⟩ h
 refine cD 1 [] h (fun hc1 h=>?_) fun hc1 h=>?_
 cases h
 exact rt 1 [] hQ
 obtain⟨s,hs,h⟩:=Ad h
 obtain⟨f,hf,h⟩:=Ad h
 refine cD 3 [(4,fk (Af2 _ _ hs)),(2,fk (Nz _ _ _ hf))] h (fun hc h=>?_) fun hc h=>?_
 cases h
 exact rt 1 [] hQ
 cases h
 exact rt 1 [] hQ
 refine lF 1 [] (A:=(Int×(List Ab)×Bool)) (fun n (v14,q2,q3)=>DP n l v14 q2 q3) (fun (v14,q2,q3)=>⟨[(2,tP ⟨#[]⟩),(3,iP 0),(4,.ptr 0 0),(12,hF l),(13,iP (l.length:Int)),(14,iP v14)],[[oT q2,bP q3]]⟩) (0,[],false) e (fun _=>rfl) ?_
 rintro n ⟨v14,q2,q3⟩ e ih
 replace e:=(DP.eq_2 ..).symm.trans e
 refine cD 1 [] e (fun hc2 e=>?_) fun hc2 e=>?_
 obtain⟨x,hx,e⟩:=Ad e
 obtain⟨f1,hf1,e⟩:=Ad e
 exact mJ 4 [(0,fi Co hx),(5,fm (M3 _ _ _ _ hf1))] (ih (_,_,_) e)
 exact mJ 1 [] (hJ _ (oj e))
end Go.Proofs.YtkcfmlfkfagejaaGreatDoor
