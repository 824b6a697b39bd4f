/-
  The walks of chapter 33: Forms and Print: the program computes the plain functions. (Printed by lift.py.)
-/
import Derived.Test.YtkcfmlfkfagejaaGreatDoorU28
import Derived.Test.YtkcfmlfkfagejaaGreatDoorU43
set_option linter.unusedVariables false
set_option linter.unusedSimpArgs false
namespace Go.Proofs.YtkcfmlfkfagejaaGreatDoor
open Go.RowKit Go.Q Go.Vl Go.Sp
set_option maxRecDepth 100000
set_option linter.unusedSimpArgs false
set_option maxHeartbeats 4000000
set_option linter.unusedVariables false
theorem I7 (n:Nat)(q:Int)(q1:Int)(out:(List Ay))(bad:Int)(bad1:Int)(q2:(List Aq))(q3:Int)(r:(Ex Ax ((List Ay)×(List Aq)×Int) Unit))(h:GD n q q1 out bad bad1 q2 q3=some r):JE r (fun v0 s0=>Ll Tryz.prog 68 [.ptr 3 0,.ptr 1 0] [[iP q,iP q1],[oF out],[iP bad,iP bad1],[hT q2,iP q3]] (.ret (.tup [])) [[iP q,iP q1],[oF s0.1],[iP bad,iP bad1],[hT s0.2.1,iP s0.2.2]]) (fun e0 s0=>Ll Tryz.prog 68 [.ptr 3 0,.ptr 1 0] [[iP q,iP q1],[oF out],[iP bad,iP bad1],[hT q2,iP q3]] (.pan [{ v:=.iface 170 (.agg #[(.int .i64 e0.At),(.int .i64 e0.E)]),recovered:=false }]) [[iP q,iP q1],[oF s0.1],[iP bad,iP bad1],[hT s0.2.1,iP s0.2.2]]):=by
 unfold GD at h
 refine vSx ⟨[0,1,10],[(1,[9997,1,3,0,1,3,2,4,5,6,7,8])]⟩ Tryz.func68 follows fun Q hQ=>?_
 refine mI 0 [] h (fun (out1,q4,q5)=>⟨[],[[iP q,iP q1],[oF out1],[iP bad,iP bad1],[hT q4,iP q5]]⟩) ?_ fun y e h hJ=>?_
 rintro⟨out1,q4,q5⟩ h
 cases h
 exact rt 0 [] hQ
 refine lF 1 [] (A:=((List Ay)×(List Aq)×Int)) (fun n (out2,q6,q7)=>DV n out2 q6 q7) (fun (out2,q6,q7)=>⟨[(0,.ptr 3 0),(1,.ptr 1 0)],[[iP q,iP q1],[oF out2],[iP bad,iP bad1],[hT q6,iP q7]]⟩) (out,q2,q3) e (fun _=>rfl) ?_
 rintro n ⟨out2,q6,q7⟩ e ih
 replace e:=(DV.eq_2 ..).symm.trans e
 obtain⟨x,hx,e⟩:=Ac e
 refine cD 1 [(4,fi Bj hx)] e (fun hc e=>?_) fun hc e=>?_
 refine wl 1 [] ?_
 refine yE e (fun f s hy1 e=>?_) fun e1 s1 hy1 e=>?_
 obtain⟨out3,hout3,e⟩:=Ac e
 refine xG [3] [0,1,3] 2 4 5 6 7 8 [.no,.no,.val (iP (out2.length:Int))] (.meth (.agg [tP f.Word,hA f.Args,hF f.Body,iP f.At]) [hT s.l,iP s.forms]) .no (out3.map BY) ⟨[(0,.ptr 3 0),(1,.ptr 1 0)],[[iP q,iP q1],[oF out3],[iP bad,iP bad1],[hT s.l,iP s.forms]]⟩ (And.intro (And.intro (V7 out2 BY) True.intro) (And.intro (And.intro (And.intro (Eo n (Ad.mk q6 q7) 1 (.ok f s) hy1) True.intro) (YO hout3 G9 (FC f))) (And.intro (And.intro (Eo n (Ad.mk q6 q7) 1 (.ok f s) hy1) True.intro) (YO hout3 G9 (FC f))))) ?_
 exact mJ 0 [] (ih (_,_,_) e)
 cases e
 cases h
 exact xGP [3] [0,1,3] 2 4 5 6 7 8 [.no,.no,.val (iP (out2.length:Int))] (.mpan [{ v:=.iface 170 (.agg #[(.int .i64 e1.At),(.int .i64 e1.E)]),recovered:=false }] [hT s1.l,iP s1.forms]) .no (And.intro (And.intro (V7 out2 BY) True.intro) (And.intro (And.intro (Eo n (Ad.mk q6 q7) 1 (.pan e1 s1) hy1) True.intro) (And.intro (Eo n (Ad.mk q6 q7) 1 (.pan e1 s1) hy1) True.intro))) hQ
 exact mJ 1 [] (hJ _ (oj e))
theorem JH (d0:Int)(d1:Int)(d2:(List Ay))(d3:Int)(d4:Int)(d5:(List Aq))(d6:Int):QC Tryz.prog 117 [.ptr 2 0] [[iP d0,iP d1],[oF d2],[iP d3,iP d4],[hT d5,iP d6]] .returning (fun y u' σ'=>u'=.returning/\y=.ret (.tup [])/\σ'=[[iP d0,iP d1],[oF d2],[iP d3,iP d4],[hT d5,iP d6]]):=by
 refine QC.intro (rv:=.nilIface) ⟨[0,1,2,3,6,13],[]⟩ Tryz.func117 rfl follows rfl (fun _ _=>rfl) rfl rfl (.inl ⟨rfl,rfl,rfl⟩) (by kernel_rfl) ?_
 refine Aat [0,1,2,3,6,13] [0,1] [.no] ⟨[(0,.ptr 2 0),(1,.lit .nilIface)],[[iP d0,iP d1],[oF d2],[iP d3,iP d4],[hT d5,iP d6]]⟩ True.intro (by kernel_rfl) ?_
 repeat first|apply z1|apply z2|apply z3|apply z4
 refine wr [0,1,6] 4 (DW 2 []) ⟨[(0,.ptr 2 0),(1,.lit .nilIface),(6,bP false)],[[iP d0,iP d1],[oF d2],[iP d3,iP d4],[hT d5,iP d6]]⟩ True.intro (by kernel_rfl) ?_
 repeat first|apply z1|apply z2|apply z3|apply z4
 refine Al rfl ?_
 repeat first|apply z1|apply z2|apply z3|apply z4
 exact Bq (Sh (by rintro y rfl;exact⟨rfl,rfl,rfl⟩) (by kernel_rfl)).1
theorem JG (d0:Int)(d1:Int)(d2:(List Ay))(d3:Int)(d4:Int)(d5:(List Aq))(d6:Int)(e0:Ax):QC Tryz.prog 117 [.ptr 2 0] [[iP d0,iP d1],[oF d2],[iP d3,iP d4],[hT d5,iP d6]] (.panicking [{ v:=.iface 170 (.agg #[(.int .i64 e0.At),(.int .i64 e0.E)]),recovered:=false }]) (fun y u' σ'=>settle u'=.returning/\y=.ret (.tup [])/\σ'=[[iP d0,iP d1],[oF d2],[iP e0.At,iP e0.E],[hT d5,iP d6]]):=by
 refine QC.intro (rv:=(.iface 170 (.agg #[(.int .i64 e0.At),(.int .i64 e0.E)]))) ⟨[0,1,2,3,6,13],[]⟩ Tryz.func117 rfl follows rfl (fun _ _=>rfl) rfl rfl (.inr ⟨[],rfl,rfl⟩) (by kernel_rfl) ?_
 refine Aat [0,1,2,3,6,13] [0,1] [.no] ⟨[(0,.ptr 2 0),(1,.lit (.iface 170 (.agg #[(.int .i64 e0.At),(.int .i64 e0.E)])))],[[iP d0,iP d1],[oF d2],[iP d3,iP d4],[hT d5,iP d6]]⟩ True.intro (by kernel_rfl) ?_
 repeat first|apply z1|apply z2|apply z3|apply z4
 refine wr [0,1,6] 4 (DW 2 []) ⟨[(0,.ptr 2 0),(1,.lit (.iface 170 (.agg #[(.int .i64 e0.At),(.int .i64 e0.E)]))),(6,bP true)],[[iP d0,iP d1],[oF d2],[iP d3,iP d4],[hT d5,iP d6]]⟩ True.intro (by kernel_rfl) ?_
 repeat first|apply z1|apply z2|apply z3|apply z4
 refine Ao rfl ?_
 repeat first|apply z1|apply z2|apply z3|apply z4
 refine wr [0,1,2,3] 5 (DW 8 []) ⟨[(0,.ptr 2 0),(1,.lit (.iface 170 (.agg #[(.int .i64 e0.At),(.int .i64 e0.E)]))),(2,.ptr 4 0),(3,bP true)],[[iP d0,iP d1],[oF d2],[iP d3,iP d4],[hT d5,iP d6],[iP e0.At,iP e0.E]]⟩ True.intro (by kernel_rfl) ?_
 repeat first|apply z1|apply z2|apply z3|apply z4
 refine wr [0,1,2,13] 5 (DW 2 []) ⟨[(0,.ptr 2 0),(1,.lit (.iface 170 (.agg #[(.int .i64 e0.At),(.int .i64 e0.E)]))),(2,.ptr 4 0),(13,bP false)],[[iP d0,iP d1],[oF d2],[iP d3,iP d4],[hT d5,iP d6],[iP e0.At,iP e0.E]]⟩ True.intro (by kernel_rfl) ?_
 repeat first|apply z1|apply z2|apply z3|apply z4
 refine Al rfl ?_
 repeat first|apply z1|apply z2|apply z3|apply z4
 refine wr [] 5 (DW 2 []) ⟨[],[[iP d0,iP d1],[oF d2],[iP e0.At,iP e0.E],[hT d5,iP d6],[iP e0.At,iP e0.E]]⟩ True.intro (by kernel_rfl) ?_
 repeat first|apply z1|apply z2|apply z3|apply z4
 exact Bq (Sh (by rintro y rfl;exact⟨rfl,rfl,rfl⟩) (by kernel_rfl)).1
theorem L3 (n:Nat)(q:Int)(q1:Int)(out:(List Ay))(src:ByteArray)(r:(Av×(List Ay)))(h:FE n q q1 out src=some r)(Q:Cp->List (List PV)->Prop)(hQ:∀ y,shareP y=.agg [iP r.1.At,iP r.1.E]->Q (.ret y) [[iP q,iP q1],[oF r.2]]) :
 VC Tryz.prog 67 [tP src,.fn 68 [.ptr 1 0]] [[iP q,iP q1],[oF out]] Q:=by
 unfold FE at h
 refine VC.introD [4] ⟨[0,1,4,5,6,14,30],[]⟩ Tryz.func67 rfl follows rfl rfl (by kernel_rfl) ?_
 show WS _ _ _ (_::_) _ _
 repeat first|apply z1|apply z2|apply z3|apply z4
 refine wr [0,1,4] 3 (DW 1 []) ⟨[(0,tP src),(1,.fn 68 [.ptr 1 0]),(4,.ptr 2 0)],[[iP q,iP q1],[oF out],[iP 0,iP 0]]⟩ True.intro (by kernel_rfl) ?_
 repeat first|apply z1|apply z2|apply z3|apply z4
 obtain⟨t,ht,h⟩:=Ac h
 refine wr [0,1,4,5] 3 (DW 1 (.call (.tup [hT t.1,.agg [iP t.2.At,iP t.2.E]])::(DW 5 []))) ⟨[(0,tP src),(1,.fn 68 [.ptr 1 0]),(4,.ptr 2 0),(5,hT t.1)],[[iP q,iP q1],[oF out],[iP t.2.At,iP t.2.E]]⟩ (And.intro (Wy src t ht) True.intro) (by kernel_rfl) ?_
 repeat first|apply z1|apply z2|apply z3|apply z4
 refine wr [0,1,4,5,14] 3 (DW 3 []) ⟨[(0,tP src),(1,.fn 68 [.ptr 1 0]),(4,.ptr 2 0),(5,hT t.1),(14,bP (t.2.E != 0))],[[iP q,iP q1],[oF out],[iP t.2.At,iP t.2.E]]⟩ True.intro (by kernel_rfl) ?_
 repeat first|apply z1|apply z2|apply z3|apply z4
 rcases Ak h with⟨hc1,h⟩|⟨hc1,h⟩
 . refine Ao (test hc1) ?_
   repeat first|apply z1|apply z2|apply z3|apply z4
   refine wr [0,1,4,5,14] 3 (DW 2 []) ⟨[(0,tP src),(1,.fn 68 [.ptr 1 0]),(4,.ptr 2 0),(5,hT t.1),(14,bP (t.2.E != 0))],[[iP q,iP q1],[oF out],[iP t.2.At,iP t.2.E]]⟩ True.intro (by kernel_rfl) ?_
   repeat first|apply z1|apply z2|apply z3|apply z4
   obtain rfl:=Ah h
   exact Bq (GZ hQ (by kernel_rfl)).1
 . refine Al (test hc1) ?_
   repeat first|apply z3|apply z2|apply z1|apply z4
   refine X7 (Bx.mk ?_)
   show WS _ _ _ _ _ ⟨(16,.fn 117 [.ptr 2 0])::[(0,tP src),(1,.fn 68 [.ptr 1 0]),(4,.ptr 2 0),(5,hT t.1),(14,bP (t.2.E != 0))],[[iP q,iP q1],[oF out],[iP t.2.At,iP t.2.E]]⟩
   repeat first|apply z1|apply z2|apply z3|apply z4
   refine wr [1,4,6] 4 (DW 4 []) ⟨[(1,.fn 68 [.ptr 1 0]),(4,.ptr 2 0),(6,.ptr 3 0)],[[iP q,iP q1],[oF out],[iP t.2.At,iP t.2.E],[hT t.1,iP 0]]⟩ True.intro (by kernel_rfl) ?_
   repeat first|apply z1|apply z2|apply z3|apply z4
   obtain⟨y,hy,h⟩:=Ac h
   rcases y with⟨f,c⟩|⟨e,c1⟩
   . refine wr [4,6] 4 (DW 2 (.site (.tup []) [[iP q,iP q1],[oF c.1],[iP t.2.At,iP t.2.E],[hT c.2.1,iP c.2.2]]::[])) ⟨[(4,.ptr 2 0),(6,.ptr 3 0)],[[iP q,iP q1],[oF c.1],[iP t.2.At,iP t.2.E],[hT c.2.1,iP c.2.2]]⟩ (And.intro (I7 n q q1 out t.2.At t.2.E t.1 0 (.ok f c) hy) True.intro) (by kernel_rfl) ?_
     repeat first|apply z1|apply z2|apply z3|apply z4
     obtain⟨x,hx,h⟩:=Ac h
     refine wr [4,6,30] 4 (DW 4 (.val (.vptr [iP x.Kind,iP x.At,tP x.S,iP x.N] 0)::(DW 3 []))) ⟨[(4,.ptr 2 0),(6,.ptr 3 0),(30,bP (x.Kind != 5))],[[iP q,iP q1],[oF c.1],[iP t.2.At,iP t.2.E],[hT c.2.1,iP c.2.2]]⟩ (And.intro (oi hx I9 (IU x)) True.intro) (by kernel_rfl) ?_
     repeat first|apply z1|apply z2|apply z3|apply z4
     rcases Ak h with⟨hc,h⟩|⟨hc,h⟩
     . refine Ao (test hc) ?_
       repeat first|apply z1|apply z2|apply z3|apply z4
       obtain⟨y1,hy1,h⟩:=Ac h
       rcases y1 with⟨f1,s⟩|⟨e1,s1⟩
       . refine wr [4] 4 (DW 1 (.meth (.tup []) [hT s.l,iP s.forms]::[])) ⟨[(4,.ptr 2 0)],[[iP q,iP q1],[oF c.1],[iP t.2.At,iP t.2.E],[hT s.l,iP s.forms]]⟩ (And.intro (A3 (Ad.mk c.2.1 c.2.2) 5 (.ok f1 s) hy1) True.intro) (by kernel_rfl) ?_
         repeat first|apply z1|apply z2|apply z3|apply z4
         refine wr [4] 4 (DW 2 []) ⟨[(4,.ptr 2 0)],[[iP q,iP q1],[oF c.1],[iP 0,iP 0],[hT s.l,iP s.forms]]⟩ True.intro (by kernel_rfl) ?_
         repeat first|apply z1|apply z2|apply z3|apply z4
         obtain rfl:=Ah h
         exact Bq (QC.mono (JH q q1 c.1 0 0 s.l s.forms) fun y u' σ' hx=>⟨hx.1,⟨_,hx.2.1⟩,by rw [hx.2.2];exact (GZ hQ (by kernel_rfl)).1⟩)
       . repeat first|apply z1|apply z2|apply z3|apply z4
         obtain rfl:=Ah h
         exact Tx [4] (DW 1 (.mpan [{ v:=.iface 170 (.agg #[(.int .i64 e1.At),(.int .i64 e1.E)]),recovered:=false }] [hT s1.l,iP s1.forms]::[])) ⟨[(4,.ptr 2 0)],[[iP q,iP q1],[oF c.1],[iP t.2.At,iP t.2.E],[hT s1.l,iP s1.forms]]⟩ (And.intro (A3 (Ad.mk c.2.1 c.2.2) 5 (.pan e1 s1) hy1) True.intro) (by kernel_rfl) rfl (QC.mono (JG q q1 c.1 t.2.At t.2.E s1.l s1.forms e1) fun y u' σ' hx=>⟨hx.1,⟨_,hx.2.1⟩,by rw [hx.2.2];exact (GZ hQ (by kernel_rfl)).1⟩)
     . refine Al (test hc) ?_
       repeat first|apply z1|apply z2|apply z3|apply z4
       refine wr [4] 4 (DW 2 []) ⟨[(4,.ptr 2 0)],[[iP q,iP q1],[oF c.1],[iP 0,iP 0],[hT c.2.1,iP c.2.2]]⟩ True.intro (by kernel_rfl) ?_
       repeat first|apply z1|apply z2|apply z3|apply z4
       obtain rfl:=Ah h
       exact Bq (QC.mono (JH q q1 c.1 0 0 c.2.1 c.2.2) fun y u' σ' hx=>⟨hx.1,⟨_,hx.2.1⟩,by rw [hx.2.2];exact (GZ hQ (by kernel_rfl)).1⟩)
   . repeat first|apply z1|apply z2|apply z3|apply z4
     obtain rfl:=Ah h
     exact Tx [4] (DW 2 (.sitep [{ v:=.iface 170 (.agg #[(.int .i64 e.At),(.int .i64 e.E)]),recovered:=false }] [[iP q,iP q1],[oF c1.1],[iP t.2.At,iP t.2.E],[hT c1.2.1,iP c1.2.2]]::[])) ⟨[(4,.ptr 2 0)],[[iP q,iP q1],[oF c1.1],[iP t.2.At,iP t.2.E],[hT c1.2.1,iP c1.2.2]]⟩ (And.intro (I7 n q q1 out t.2.At t.2.E t.1 0 (.pan e c1) hy) True.intro) (by kernel_rfl) rfl (QC.mono (JG q q1 c1.1 t.2.At t.2.E c1.2.1 c1.2.2 e) fun y u' σ' hx=>⟨hx.1,⟨_,hx.2.1⟩,by rw [hx.2.2];exact (GZ hQ (by kernel_rfl)).1⟩)
theorem MH (n:Nat)(q:Int)(q1:Int)(out:(List Ay))(src:ByteArray)(r:(Av×(List Ay)))(h:FE n q q1 out src=some r):Ll Tryz.prog 67 [tP src,.fn 68 [.ptr 1 0]] [[iP q,iP q1],[oF out]] (.ret (.agg [iP r.1.At,iP r.1.E])) [[iP q,iP q1],[oF r.2]]:=Ll.fin (fun Q hQ=>L3 n q q1 out src _ h Q hQ)
theorem Mc (n:Nat)(src:ByteArray)(r:((List Ay)×Av))(h:IB n src=some r):Cd Tryz.prog 40 [tP src] (.tup [hF r.1,.agg [iP r.2.At,iP r.2.E]]):=by
 unfold IB at h
 refine vP ⟨[0,2,3,4,5,11],[]⟩ Tryz.func40 follows fun Q hQ=>?_
 obtain⟨bad,hbad,h⟩:=Ac h
 refine cD 4 [(5,fs (MH _ _ _ _ _ _ hbad))] h (fun hc h=>?_) fun hc h=>?_
 cases h
 exact rt 1 [] hQ
 cases h
 exact rt 1 [] hQ
theorem JX (n0:Nat)
 (ih_parse_printer_form:∀ m,m<=n0->∀ (p:Am) (f:Ay) (r:(Unit×Am)),Bz m p f=some r->CH Tryz.prog 65 [.agg [tP f.Word,hA f.Args,hF f.Body,iP f.At]] [oT p.l,bP p.bad] (.ret (.tup [])) [oT r.2.l,bP r.2.bad])
 (n:Nat) (hn:n<=n0) (p:Am) (f:Ay) (r:(Unit×Am)) (h:Bz (n+1) p f=some r):CH Tryz.prog 65 [.agg [tP f.Word,hA f.Args,hF f.Body,iP f.At]] [oT p.l,bP p.bad] (.ret (.tup [])) [oT r.2.l,bP r.2.bad]:=by
 replace h:=(Bz.eq_2 ..).symm.trans h
 refine vM ⟨[0,1,3,5,7,13,14,15,16,20,24,30,34,60,66,71,87,95,96,97,98],[]⟩ Tryz.func65 follows fun Q hQ=>?_
 obtain⟨n_,hn_,h⟩:=Ac h
 refine mE 3 [(4,fm (DU _ _ _ _ hn_)),(2,fl A7 f.Args)] h (fun (p1,p2)=>⟨[(0,.ptr 0 0),(3,.ptr 1 0)],[[oT p1,bP p2],[tP f.Word,hA f.Args,hF f.Body,iP f.At]]⟩) ?_ fun y e hJ=>?_
 rintro⟨p1,p2⟩ h
 refine cD 1 [(2,fl BF f.Body)] h (fun hc1 h=>?_) fun hc1 h=>?_
 obtain⟨l,hl,h⟩:=Ac h
 obtain⟨s,hs,h⟩:=Ac h
 cases h
 exact rt 1 [(1,fB B2 hl),(0,fm (A9 _ _ _ _ hs))] hQ
 obtain⟨l1,hl1,h⟩:=Ac h
 obtain⟨s1,hs1,h⟩:=Ac h
 refine mE 2 [(1,fB B2 hl1),(0,fm (A9 _ _ _ _ hs1)),(2,fl BF f.Body)] h (fun (p3,p4)=>⟨[(0,.ptr 0 0)],[[oT p3,bP p4],[tP f.Word,hA f.Args,hF f.Body,iP f.At]]⟩) ?_ fun y1 e1 hJ1=>?_
 rintro⟨p3,p4⟩ h
 obtain⟨l2,hl2,h⟩:=Ac h
 obtain⟨s2,hs2,h⟩:=Ac h
 cases h
 exact rt 1 [(1,fB B2 hl2),(0,fm (A9 _ _ _ _ hs2))] hQ
 refine lR 1 [] (A:=(Int×(List Aq)×Bool)) (fun n (v97,p5,p6)=>Dw n f v97 p5 p6) (fun (v97,p5,p6)=>⟨[(0,.ptr 0 0),(95,hF f.Body),(96,iP (f.Body.length:Int)),(97,iP v97)],[[oT p5,bP p6],[tP f.Word,hA f.Args,hF f.Body,iP f.At]]⟩) (0,s1.2.l,s1.2.bad) hn e1 (fun _=>rfl) ?_
 rintro n ⟨v97,p5,p6⟩ hn e1 ih
 replace e1:=(Dw.eq_2 ..).symm.trans e1
 refine cD 1 [] e1 (fun hc e1=>?_) fun hc e1=>?_
 obtain⟨x,hx,e1⟩:=Ac e1
 obtain⟨f1,hf1,e1⟩:=Ac e1
 exact mJ 4 [(0,fi BF hx),(5,fm (ih_parse_printer_form _ hn _ _ _ hf1))] (ih (_,_,_) e1)
 exact mJ 1 [] (hJ1 _ (oj e1))
 refine lR 1 [] (A:=(Int×(List Aq)×Bool)) (fun n (v15,p7,p8)=>Bc n f v15 p7 p8) (fun (v15,p7,p8)=>⟨[(0,.ptr 0 0),(3,.ptr 1 0),(13,hA f.Args),(14,iP (f.Args.length:Int)),(15,iP v15)],[[oT p7,bP p8],[tP f.Word,hA f.Args,hF f.Body,iP f.At]]⟩) (0,n_.2.l,n_.2.bad) hn e (fun _=>rfl) ?_
 rintro n ⟨v15,p7,p8⟩ hn e ih1
 replace e:=(Bc.eq_2 ..).symm.trans e
 refine cD 1 [] e (fun hc9 e=>?_) fun hc9 e=>?_
 obtain⟨x1,hx1,e⟩:=Ac e
 refine cD 5 [(0,fi A7 hx1)] e (fun hc8 e=>?_) fun hc8 e=>?_
 obtain⟨n_1,hn_1,e⟩:=Ac e
 exact mJ 2 [(3,fm (DU _ _ _ _ hn_1))] (ih1 (_,_,_) e)
 refine cD 1 [] e (fun hc7 e=>?_) fun hc7 e=>?_
 refine cD 1 [] e (fun hc3 e=>?_) fun hc3 e=>?_
 obtain⟨l3,hl3,e⟩:=Ac e
 obtain⟨s3,hs3,e⟩:=Ac e
 obtain⟨n_2,hn_2,e⟩:=Ac e
 refine mE 2 [(1,fB B2 hl3),(0,fm (A9 _ _ _ _ hs3)),(5,fm (E5 _ _ _ hn_2))] e (fun p9=>⟨[(0,.ptr 0 0),(3,.ptr 1 0),(5,.ptr 2 0),(13,hA f.Args),(14,iP (f.Args.length:Int)),(15,iP v15)],[[oT n_2.2.l,bP p9],[tP f.Word,hA f.Args,hF f.Body,iP f.At],[iP x1.Kind,iP x1.N,tP x1.S,iP x1.E.Op,iP x1.E.N,tP x1.E.S,hX x1.E.Kids,iP x1.E.At,iP x1.At]]⟩) ?_ fun y2 e2 hJ2=>?_
 rintro p9 e
 exact mJ 2 [] (ih1 (_,_,_) e)
 rcases Ak e2 with⟨hc2,e2⟩|⟨hc2,e2⟩
 exact mJ 1 [(5,fo hc2)] (hJ2 _ (oj e2))
 exact mJ 1 [(5,fo hc2)] (hJ2 _ (oj e2))
 obtain⟨n_3,hn_3,e⟩:=Ac e
 exact mJ 2 [(3,fm (E5 _ _ _ hn_3))] (ih1 (_,_,_) e)
 refine cD 1 [] e (fun hc6 e=>?_) fun hc6 e=>?_
 obtain⟨t,ht,e⟩:=Ac e
 exact mJ 2 [(3,fm (Hq _ _ _ _ ht))] (ih1 (_,_,_) e)
 refine cD 1 [] e (fun hc5 e=>?_) fun hc5 e=>?_
 obtain⟨l4,hl4,e⟩:=Ac e
 obtain⟨s4,hs4,e⟩:=Ac e
 exact mJ 2 [(1,fB B2 hl4),(0,fm (A9 _ _ _ _ hs4))] (ih1 (_,_,_) e)
 refine cD 1 [] e (fun hc4 e=>?_) fun hc4 e=>?_
 obtain⟨l5,hl5,e⟩:=Ac e
 obtain⟨s5,hs5,e⟩:=Ac e
 obtain⟨e3,he3,e⟩:=Ac e
 obtain⟨l6,hl6,e⟩:=Ac e
 obtain⟨s6,hs6,e⟩:=Ac e
 exact mJ 4 [(1,fB B2 hl5),(0,fm (A9 _ _ _ _ hs5)),(3,fm (Lh _ _ _ _ he3)),(1,fB B2 hl6),(0,fm (A9 _ _ _ _ hs6))] (ih1 (_,_,_) e)
 exact mJ 2 [] (ih1 (_,_,_) e)
 exact mJ 1 [] (hJ _ (oj e))
theorem Gc:∀ n:Nat,(∀ m,m<=n->∀ (p:Am) (f:Ay) (r:(Unit×Am)),Bz m p f=some r->CH Tryz.prog 65 [.agg [tP f.Word,hA f.Args,hF f.Body,iP f.At]] [oT p.l,bP p.bad] (.ret (.tup [])) [oT r.2.l,bP r.2.bad])
 |0=>(fun m hm p f r h=>by
  obtain rfl:m=0:=by omega
  exact absurd h (by simp [Bz]))
 |n+1=>by
  have ih:=Gc n
  exact fun m hm p f r h=>by
   cases m with
   |zero=>exact absurd h (by simp [Bz])
   |succ m=>exact JX n (ih) m (by omega) p f _ h
theorem Lg (n:Nat)(p:Am)(f:Ay)(r:(Unit×Am))(h:Bz n p f=some r):CH Tryz.prog 65 [.agg [tP f.Word,hA f.Args,hF f.Body,iP f.At]] [oT p.l,bP p.bad] (.ret (.tup [])) [oT r.2.l,bP r.2.bad] :=
 (Gc n) n (Nat.le_refl _) p f r h
theorem QJ (n:Nat)(l:(List Ay))(r:(ByteArray×Int))(h:K6 n l=some r):Cd Tryz.prog 39 [hF l] (.tup [tP r.1,iP r.2]):=by
 unfold K6 at h
 refine vP ⟨[0,2,3,4,6,7,9,12,13,14,15,25,38],[]⟩ Tryz.func39 follows fun Q hQ=>?_
 refine mE 3 [(6,fl BF l)] h (fun (q,q1)=>⟨[(2,tP ⟨#[]⟩),(3,iP 0),(4,.ptr 0 0)],[[oT q,bP q1]]⟩) ?_ fun y e hJ=>?_
 rintro⟨q,q1⟩ h
 refine cD 1 [] h (fun hc1 h=>?_) fun hc1 h=>?_
 cases h
 exact rt 1 [] hQ
 obtain⟨s,hs,h⟩:=Ac h
 obtain⟨f,hf,h⟩:=Ac h
 refine cD 3 [(4,fk (Zb _ _ hs)),(2,fk (Mc _ _ _ hf))] h (fun hc h=>?_) fun hc h=>?_
 cases h
 exact rt 1 [] hQ
 cases h
 exact rt 1 [] hQ
 refine lF 1 [] (A:=(Int×(List Aq)×Bool)) (fun n (v14,q2,q3)=>Gm n l v14 q2 q3) (fun (v14,q2,q3)=>⟨[(2,tP ⟨#[]⟩),(3,iP 0),(4,.ptr 0 0),(12,hF l),(13,iP (l.length:Int)),(14,iP v14)],[[oT q2,bP q3]]⟩) (0,[],false) e (fun _=>rfl) ?_
 rintro n ⟨v14,q2,q3⟩ e ih
 replace e:=(Gm.eq_2 ..).symm.trans e
 refine cD 1 [] e (fun hc2 e=>?_) fun hc2 e=>?_
 obtain⟨x,hx,e⟩:=Ac e
 obtain⟨f1,hf1,e⟩:=Ac e
 exact mJ 4 [(0,fi BF hx),(5,fm (Lg _ _ _ _ hf1))] (ih (_,_,_) e)
 exact mJ 1 [] (hJ _ (oj e))
end Go.Proofs.YtkcfmlfkfagejaaGreatDoor
