/-
  The specification's values are those that value computes. No program. Few nodes, in plain words. No program. The examples of the documentation hold. No program. Value in plain words; StatuteIsTyped, the plain law. No program.
-/
import Derived.KernelRfl
import Derived.Test.YtkcfmlfkfagejaaGreatDoorU16
import Derived.Test.YtkcfmlfkfagejaaGreatDoorU20

namespace Go.Sp
open Go
mutual
def FW:Aa->Int->Int
 |.mk _ _ _ kids _,n=>Fv kids (n-1)
def Fv:List Aa->Int->Int
 | [],n=>n
 |e::l,n=>if n<0 then n else Fv l (FW e n)
end
mutual
theorem KE:∀ (e:Aa) (n:Int),FW e n<=n-1
 |.mk _ _ _ kids _,n=>by rw [FW];exact Lu kids (n-1)
theorem Lu:∀ (l:List Aa) (n:Int),Fv l n<=n
 | [],n=>by rw [Fv];omega
 |e::l,n=>by
  rw [Fv]
  split
  . omega
  . have h1:=KE e n
    have h2:=Lu l (FW e n)
    omega
end
theorem MW:∀ (l:List Aa) (n:Int),0<=Fv l n->(l.length:Int)<=n
 | [],n,h=>by rw [Fv] at h;simpa using h
 |e::l,n,h=>by
  rw [Fv] at h
  split at h
  . omega
  . have h1:=KE e n
    have h2:=MW l _ h
    simp only [List.length_cons]
    omega
mutual
theorem MX:∀ (e:Aa) (n:Int),0<=FW e n->n<=1000000->CG e=true
 |.mk _ _ _ kids _,n,h,hn=>by
  rw [FW] at h
  have:=MW kids (n-1) h
  rw [CG,Bool.and_eq_true,decide_eq_true_eq]
  exact⟨by omega,LM kids (n-1) h (by omega)⟩
theorem LM:∀ (l:List Aa) (n:Int),0<=Fv l n->n<=1000000->ES l=true
 | [],_,_,_=>by rw [ES]
 |e::l,n,h,hn=>by
  rw [Fv] at h
  split at h
  . omega
  . have h1:=KE e n
    have h2:=Lu l (FW e n)
    rw [ES,Bool.and_eq_true]
    exact⟨MX e n (by omega) hn,LM l _ h (by omega)⟩
end
theorem Qn (e:Aa)(hf:∀ x∈e.Kids,∀ n,0<=n->n<=1000->Ev (fun k=>BC k x n) (FW x n)/\-1<=FW x n) :
 ∀ (r:List Aa) (k:Nat) (n:Int),e.Kids.drop k=r->k<=e.Kids.length->-1<=n->(k:Int)+n<=1000->Ev (fun m=>BO m e n (k:Int)) (Fv r n)/\-1<=Fv r n
 | [],k,n,hr,hkl,hn,_=>by
  have he:=R6 hr hkl
  rw [Fv]
  refine⟨Ev.step (f:=fun _=>some n) (fun m=>?_) Ev.pure,hn⟩
  rw [ET,show (decide ((k:Int)<(e.Kids.length:Int)))=false by rw [decide_eq_false_iff_not];omega];rfl
 |x::r,k,n,hr,hkl,hn,hb=>by
  obtain⟨h1,h2⟩:=Nl hr
  rw [Fv]
  by_cases c:n<0
  . rw [if_pos c]
    refine⟨Ev.step (f:=fun _=>some n) (fun m=>?_) Ev.pure,hn⟩
    rw [ET,UH h2,cond_true,decide_eq_false (by omega)];rfl
  . rw [if_neg c]
    have hmem:x∈e.Kids:=List.mem_of_mem_drop (by rw [hr];simp)
    obtain⟨f1,f2⟩:=hf x hmem n (by omega) (by omega)
    have f3:=KE x n
    obtain⟨i1,i2⟩:=Qn e hf r (k+1) (FW x n) h1 (by omega) f2 (by omega)
    refine⟨Ev.step (f:=fun m=>(BC m x n).bind fun n3=>BO m e n3 ((k+1:Nat):Int)) (fun m=>?_) (Ev.bind f1 i1),i2⟩
    rw [ET,UH h2,cond_true,decide_eq_true (by omega),Option.bind_some,cond_true,Vv hr,Option.bind_some,UJ (by omega)]
mutual
theorem Sb:∀ (e:Aa) (n:Int),0<=n->n<=1000->Ev (fun k=>BC k e n) (FW e n)/\-1<=FW e n
 |.mk op num s kids at0,n,h0,h1=>by
  have h:=Qn (.mk op num s kids at0) (Qm kids) kids 0 (n-1) rfl (Nat.zero_le _) (by omega) (by simp;omega)
  rw [FW]
  refine⟨Ev.step (fun k=>Mh k (.mk op num s kids at0) n) (Ev.bind ?_ Ev.pure),h.2⟩
  rw [Ec (by omega) (by omega)]
  exact h.1
theorem Qm:∀ (l:List Aa),∀ x∈l,∀ n,0<=n->n<=1000->Ev (fun k=>BC k x n) (FW x n)/\-1<=FW x n
 | [],x,hx=>by simp at hx
 |e::l,x,hx=>by
  rcases List.mem_cons.1 hx with hx|hx
  . rw [hx];exact Sb e
  . exact Qm l x hx
end
theorem Q4 (e:Aa)(n:Int)(h0:0<=n)(h1:n<=1000):Ev (fun k=>Ez k e n) (decide (0<=FW e n)):=by
 unfold Ez
 have h:Aa.mk e.Op e.N e.S e.Kids e.At=e:=by cases e;rfl
 rw [h]
 exact Ev.bind (Sb e n h0 h1).1 Ev.pure
end Go.Sp
namespace Go.Sp
open Go
set_option maxRecDepth 100000
theorem T9:LD=some true:=by kernel_rfl
end Go.Sp
namespace Go.Sp
open Go
set_option maxRecDepth 100000
theorem eta (e:Aa):Aa.mk e.Op e.N e.S e.Kids e.At=e:=by cases e;rfl
def JZ (e:Aa)(m:Ah):Int×Int :=
 if (AV e).2.2.E≠0 then (0,(AV e).2.2.E) else if EU m.d m.known≠0 then (0,EU m.d m.known) else (KL m e,0)
theorem Q2 {e:Aa}(h:CG e=true):I5 e=some (AV e):=by unfold I5;rw [if_pos h]
theorem E6 (e:Aa)(d:AB)(known:Int)(hs:CG e=true):Ev (fun n=>Bd n e d known) (JZ e ⟨d,known⟩):=by
 unfold Bd JZ
 simp only [eta,Q2 hs,Option.bind_some]
 by_cases c:(AV e).2.2.E=0
 . rw [show ((AV e).2.2.E != 0)=false by simpa using c,if_neg (by simpa using c)]
   simp only [cond_false]
   refine Ev.bind (Qp d known) ?_
   by_cases c2:EU d known=0
   . have hv:P6 e ⟨d,known⟩=some (KL ⟨d,known⟩ e):=by unfold P6;rw [if_pos ⟨hs,c,c2⟩]
     rw [show (EU d known != 0)=false by simpa using c2,if_neg (by simpa using c2)]
     simp only [cond_false,hv,Option.bind_some]
     exact Ev.pure
   . rw [show (EU d known != 0)=true by simpa using c2,if_pos c2]
     exact Ev.pure
 . rw [show ((AV e).2.2.E != 0)=true by simpa using c,if_pos c]
   exact Ev.pure
theorem Ty (e:Aa)(hs:CG e=true):Fl e=some ((AV e).1,(AV e).2.2.E):=by
 unfold Fl
 simp only [eta,Q2 hs,Option.bind_some]
theorem O3 {op num at0:Int}{s:ByteArray}{kids:List Aa}{ts:List Int}{r:Int×Ab×Au}(h1:5<=op)(h2:op<=20)(hl:(kids.length:Int)=arity op)(hk:BY kids=.inl ts)(hs:BA op s ts EP false false=.inr r) :
 AV (.mk op num s kids at0)=r:=by
 rw [AV,if_neg (by rintro (h|h|⟨_,h⟩)<;>first|omega|exact h hl),hk]
 simp only
 rw [if_neg (by omega),if_neg (by omega),if_neg (by omega),hs]
theorem Sk {op num at0:Int}{s:ByteArray}{kids:List Aa}{r:Int×Ab×Au}(h1:5<=op)(hf:AV (.mk op num s kids at0)=r)(m:Ah):KL m (.mk op num s kids at0)=Lq m r.2.1.do_ (Ko m kids):=by
 rw [KL,if_neg (by omega),if_neg (by omega),hf]
theorem NV {e:Aa}{t:Int}(h:(AV e).2.2.E=0)(ht:(AV e).1=t):BY [e]=.inl [t]:=by
 rw [BY,if_neg (by simpa using h),BY,ht]
theorem S0 {e f:Aa}{t u:Int}(h:(AV e).2.2.E=0)(ht:(AV e).1=t)(k:(AV f).2.2.E=0)(ku:(AV f).1=u):BY [e,f]=.inl [t,u]:=by
 rw [BY,if_neg (by simpa using h),NV k ku,ht]
theorem NT {op t k:Int}{dd:Do}{e:Aa}(h1:5<=op)(h2:op<=20)(ha:arity op=1)(hs:BA op ⟨#[]⟩ [t] EP false false=.inr (k,⟨op,⟨#[]⟩,[t],k,dd⟩,⟨0,0⟩))(he:(AV e).2.2.E=0)(ht:(AV e).1=t)(m:Ah) :
 AV (.mk op 0 ⟨#[]⟩ [e] 0)=(k,⟨op,⟨#[]⟩,[t],k,dd⟩,⟨0,0⟩)/\KL m (.mk op 0 ⟨#[]⟩ [e] 0)=Lq m dd [KL m e]:=by
 have hf:=O3 (num:=0) (at0:=0) h1 h2 (kids:=[e]) (by rw [ha];rfl) (NV he ht) hs
 refine⟨hf,?_⟩
 rw [Sk h1 hf,Ko,Ko]
theorem Gt {op t u k:Int}{dd:Do}{e f:Aa}(h1:5<=op)(h2:op<=20)(ha:arity op=2)(hs:BA op ⟨#[]⟩ [t,u] EP false false=.inr (k,⟨op,⟨#[]⟩,[t,u],k,dd⟩,⟨0,0⟩))(he:(AV e).2.2.E=0)(ht:(AV e).1=t)
 (hf2:(AV f).2.2.E=0) (hu:(AV f).1=u) (m:Ah):AV (.mk op 0 ⟨#[]⟩ [e,f] 0)=(k,⟨op,⟨#[]⟩,[t,u],k,dd⟩,⟨0,0⟩)/\KL m (.mk op 0 ⟨#[]⟩ [e,f] 0)=Lq m dd [KL m e,KL m f]:=by
 have hf:=O3 (num:=0) (at0:=0) h1 h2 (kids:=[e,f]) (by rw [ha];rfl) (S0 he ht hf2 hu) hs
 refine⟨hf,?_⟩
 rw [Sk h1 hf,Ko,Ko,Ko]
theorem J1 {op:Int}{s:ByteArray}{e:Aa}(h:CG e=true):CG (.mk op 0 s [e] 0)=true:=by
 rw [CG,ES,ES,h];rfl
theorem Gv {op:Int}{s:ByteArray}{e f:Aa}(h:CG e=true)(k:CG f=true):CG (.mk op 0 s [e,f] 0)=true:=by
 rw [CG,ES,ES,ES,h,k];rfl
def NF:Aa:=.mk 1 0 ⟨#[]⟩ [] 0
theorem J5:AV NF=(1,VN,⟨0,0⟩):=by
 unfold NF
 rw [AV,if_neg (by decide),BY]
 rfl
theorem Sa (m:Ah):KL m NF=0:=by
 unfold NF
 rw [KL,if_pos rfl]
theorem ML:CG NF=true:=by unfold NF;rw [CG,ES];rfl
theorem E7 {e:Aa}{m:Ah}{r:Int×Ab×Au}(hf:AV e=r)(h0:r.2.2=⟨0,0⟩)(hk:EU m.d m.known=0):JZ e m=(KL m e,0):=by
 unfold JZ
 rw [hf,h0,if_neg (by simp),if_neg (by simpa using hk)]
theorem S3 (e:Aa)(d:AB)(known:Int):Ev (fun n=>Dd n e d known) true:=by
 unfold Dd
 simp only [eta,T9,Option.bind_some]
 refine Ev.bind (Q4 e 100 (by decide) (by decide)) ?_
 by_cases hfew:0<=FW e 100
 rotate_left
 . simp only [decide_eq_false hfew,Bool.not_false,cond_true,Option.bind_some];exact Ev.pure
 have hs:=MX e 100 hfew (by decide)
 simp only [decide_eq_true hfew,Bool.not_true,cond_false]
 by_cases h60:(60:Int)<(d.Facts.length:Int)
 . simp only [decide_eq_true h60,cond_true,Option.bind_some];exact Ev.pure
 simp only [decide_eq_false h60,cond_false]
 have hkn:Ev (fun n=>(CA n d known).bind fun k=>some (k != 0)) (EU d known != 0):=Ev.bind (Qp d known) Ev.pure
 refine Ev.bind hkn ?_
 by_cases hk:EU d known=0
 rotate_left
 . rw [show (EU d known != 0)=true by simpa using hk];exact Ev.pure
 rw [show (EU d known != 0)=false by simpa using hk]
 simp only [cond_false,Ty e hs,Option.bind_some]
 refine Ev.bind (E6 e d known hs) ?_
 have hm:VD ⟨d,known⟩:=TS hk
 by_cases hE:(AV e).2.2.E=0
 rotate_left
 . have hv:JZ e ⟨d,known⟩=(0,(AV e).2.2.E):=by unfold JZ;rw [if_pos hE]
   simp only [hv,Uq hE,show ((AV e).2.2.E != 0)=true by simpa using hE,cond_true,beq_self_eq_true,Option.bind_some]
   exact Ev.pure
 have hv:JZ e ⟨d,known⟩=(KL ⟨d,known⟩ e,0):=E7 rfl (Sh hE).2 hk
 simp only [hv,show ((AV e).2.2.E != 0)=false by simpa using hE,bne_self_eq_false,cond_false]
 have hin:=(Mz RU ⟨d,known⟩ hm e hs hE).2
 obtain⟨ht,_⟩:=Sh hE
 unfold Ud at ht
 have hcases:(AV e).1=1∨(AV e).1=2∨(AV e).1=3∨(AV e).1=4:=by omega
 generalize hval:KL ⟨d,known⟩ e=v at *
 rcases hcases with hT|hT|hT|hT
 . rw [hT] at hin
   have hr:=UI hin
   obtain⟨f1,e1⟩:=NT (op:=6) (k:=1) (dd:=.c 77) (by decide) (by decide) rfl (by kernel_rfl) hE hT ⟨d,known⟩
   obtain⟨f2,e2⟩:=Gt (op:=10) (k:=1) (dd:=.c 80) (by decide) (by decide) rfl (by kernel_rfl) hE hT (f:=NF) (u:=1) (by rw [J5]) (by rw [J5]) ⟨d,known⟩
   have l1:=E6 (.mk 6 0 ⟨#[]⟩ [e] 0) d known (J1 hs)
   have l2:=E6 (.mk 10 0 ⟨#[]⟩ [e,NF] 0) d known (Gv hs ML)
   rw [E7 f1 rfl hk,e1,hval] at l1
   rw [E7 f2 rfl hk,e2,hval,Sa] at l2
   have x1:Lq ⟨d,known⟩ (.c 77) [v] = -v:=rfl
   have x2:Lq ⟨d,known⟩ (.c 80) [v,0]=v:=by
    show GW (v+0)=v
    unfold GW
    rw [if_neg (by omega),if_neg (by omega)];omega
   rw [x1] at l1
   rw [x2] at l2
   simp only [hT,beq_self_eq_true,cond_true,C8,Cc,Option.bind_some]
   refine Ev.bind l1 (Ev.bind l2 ?_)
   simp only [decide_eq_true hr.1,decide_eq_true hr.2,beq_self_eq_true,cond_true]
   rw [Ec (by omega) (by omega),show (-v == 0-v)=true by rw [beq_iff_eq];omega]
   exact Ev.pure
 . rw [hT] at hin
   have hr:=WU hin
   obtain⟨f1,e1⟩:=Gt (op:=10) (k:=2) (dd:=.c 82) (by decide) (by decide) rfl (by kernel_rfl) hE hT (f:=NF) (u:=1) (by rw [J5]) (by rw [J5]) ⟨d,known⟩
   obtain⟨f2,e2⟩:=Gt (op:=11) (k:=1) (dd:=.c 86) (by decide) (by decide) rfl (by kernel_rfl) hE hT hE hT ⟨d,known⟩
   have l1:=E6 (.mk 10 0 ⟨#[]⟩ [e,NF] 0) d known (Gv hs ML)
   have l2:=E6 (.mk 11 0 ⟨#[]⟩ [e,e] 0) d known (Gv hs hs)
   rw [E7 f1 rfl hk,e1,hval,Sa] at l1
   rw [E7 f2 rfl hk,e2,hval] at l2
   have x1:Lq ⟨d,known⟩ (.c 82) [v,0]=v:=by
    show Jq v 0=v
    unfold Jq Kr
    split
    . rfl
    . rw [if_neg (by omega),if_neg (by omega)];omega
   have x2:Lq ⟨d,known⟩ (.c 86) [v,v]=0:=by
    show v-v=0
    omega
   rw [x1] at l1
   rw [x2] at l2
   simp only [hT,show ((2:Int) == 1)=false by decide,beq_self_eq_true,cond_true,cond_false,C8,Cc,Option.bind_some]
   refine Ev.bind l1 (Ev.bind l2 ?_)
   simp only [decide_eq_true hr.1,decide_eq_true hr.2,beq_self_eq_true,cond_true]
   exact Ev.pure
 . rw [hT] at hin
   have hr:=Ue hin
   obtain⟨f1,e1⟩:=NT (op:=5) (k:=3) (dd:=.c 87) (by decide) (by decide) rfl (by kernel_rfl) hE hT ⟨d,known⟩
   have g1:(AV (.mk 5 0 ⟨#[]⟩ [e] 0)).2.2.E=0:=by rw [f1]
   have g2:(AV (.mk 5 0 ⟨#[]⟩ [e] 0)).1=3:=by rw [f1]
   obtain⟨f2,e2⟩:=Gt (op:=18) (k:=3) (dd:=.c 88) (by decide) (by decide) rfl (by kernel_rfl) hE hT g1 g2 ⟨d,known⟩
   obtain⟨f3,e3⟩:=Gt (op:=19) (k:=3) (dd:=.c 89) (by decide) (by decide) rfl (by kernel_rfl) hE hT g1 g2 ⟨d,known⟩
   have l1:=E6 (.mk 5 0 ⟨#[]⟩ [e] 0) d known (J1 hs)
   have l2:=E6 (.mk 18 0 ⟨#[]⟩ [e,.mk 5 0 ⟨#[]⟩ [e] 0] 0) d known (Gv hs (J1 hs))
   have l3:=E6 (.mk 19 0 ⟨#[]⟩ [e,.mk 5 0 ⟨#[]⟩ [e] 0] 0) d known (Gv hs (J1 hs))
   rw [E7 f1 rfl hk,e1,hval] at l1
   rw [E7 f2 rfl hk,e2,hval,e1,hval] at l2
   rw [E7 f3 rfl hk,e3,hval,e1,hval] at l3
   have x1:Lq ⟨d,known⟩ (.c 87) [v]=1-v:=rfl
   rw [x1] at l1 l2 l3
   simp only [hT,show ((3:Int) == 1)=false by decide,show ((3:Int) == 2)=false by decide,beq_self_eq_true,cond_true,cond_false,Cc,Option.bind_some]
   refine Ev.bind l1 (Ev.bind l2 (Ev.bind l3 ?_))
   have h01:v=0∨v=1:=by omega
   clear hval hin l1 l2 l3 e1 e2 e3 hv
   rcases h01 with rfl|rfl<;>exact Ev.const (by kernel_rfl)
 . rw [hT] at hin
   have hr:=YT hin
   obtain⟨f1,e1⟩:=Gt (op:=12) (k:=3) (dd:=.is 99) (by decide) (by decide) rfl (by kernel_rfl) hE hT hE hT ⟨d,known⟩
   have l1:=E6 (.mk 12 0 ⟨#[]⟩ [e,e] 0) d known (Gv hs hs)
   rw [E7 f1 rfl hk,e1,hval] at l1
   have x1:Lq ⟨d,known⟩ (.is 99) [v,v]=1:=by
    show KJ (v == v)=1
    rw [beq_self_eq_true];rfl
   rw [x1] at l1
   simp only [hT,show ((4:Int) == 1)=false by decide,show ((4:Int) == 2)=false by decide,show ((4:Int) == 3)=false by decide,beq_self_eq_true,cond_true,cond_false,Cc,Option.bind_some]
   refine Ev.bind l1 ?_
   simp only [decide_eq_true hr.1,decide_eq_true hr.2,beq_self_eq_true,cond_true]
   exact Ev.pure
end Go.Sp
