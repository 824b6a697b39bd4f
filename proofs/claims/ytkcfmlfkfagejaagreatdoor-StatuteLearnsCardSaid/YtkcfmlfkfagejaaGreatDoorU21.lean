/-
  The specification's values are those that value computes. No program. Few nodes, in plain words. No program. The examples of the documentation hold. No program. Value in plain words; StatuteIsTyped, the plain law. No program. StatuteLearns, the plain law: later facts and the order of facts of different kinds or people do not change a value. No program.
-/
import Derived.KernelRfl
import Derived.Test.YtkcfmlfkfagejaaGreatDoorU16
import Derived.Test.YtkcfmlfkfagejaaGreatDoorU20
set_option linter.unusedVariables false
set_option linter.unusedSimpArgs false

namespace Go.Sp
open Go
mutual
def FX:Ab->Int->Int
 |.mk _ _ _ kids _,n=>Fs kids (n-1)
def Fs:List Ab->Int->Int
 | [],n=>n
 |e::l,n=>if n<0 then n else Fs l (FX e n)
end
mutual
theorem KH:∀ (e:Ab) (n:Int),FX e n<=n-1
 |.mk _ _ _ kids _,n=>by rw [FX];exact Lu kids (n-1)
theorem Lu:∀ (l:List Ab) (n:Int),Fs l n<=n
 | [],n=>by rw [Fs];omega
 |e::l,n=>by
  rw [Fs]
  split
  . omega
  . have h1:=KH e n
    have h2:=Lu l (FX e n)
    omega
end
theorem MY:∀ (l:List Ab) (n:Int),0<=Fs l n->(l.length:Int)<=n
 | [],n,h=>by rw [Fs] at h;simpa using h
 |e::l,n,h=>by
  rw [Fs] at h
  split at h
  . omega
  . have h1:=KH e n
    have h2:=MY l _ h
    simp only [List.length_cons]
    omega
mutual
theorem MZ:∀ (e:Ab) (n:Int),0<=FX e n->n<=1000000->F7 e=true
 |.mk _ _ _ kids _,n,h,hn=>by
  rw [FX] at h
  have:=MY kids (n-1) h
  rw [F7,Bool.and_eq_true,decide_eq_true_eq]
  exact⟨by omega,LP kids (n-1) h (by omega)⟩
theorem LP:∀ (l:List Ab) (n:Int),0<=Fs l n->n<=1000000->Il l=true
 | [],_,_,_=>by rw [Il]
 |e::l,n,h,hn=>by
  rw [Fs] at h
  split at h
  . omega
  . have h1:=KH e n
    have h2:=Lu l (FX e n)
    rw [Il,Bool.and_eq_true]
    exact⟨MZ e n (by omega) hn,LP l _ h (by omega)⟩
end
theorem Qx (e:Ab)(hf:∀ x∈e.Kids,∀ n,0<=n->n<=1000->Ev (fun k=>BB k x n) (FX x n)/\-1<=FX x n) :
 ∀ (r:List Ab) (k:Nat) (n:Int),e.Kids.drop k=r->k<=e.Kids.length->-1<=n->(k:Int)+n<=1000->Ev (fun m=>BO m e n (k:Int)) (Fs r n)/\-1<=Fs r n
 | [],k,n,hr,hkl,hn,_=>by
  have he:=Ps hr hkl
  rw [Fs]
  refine⟨Ev.step (f:=fun _=>some n) (fun m=>?_) Ev.pure,hn⟩
  rw [ES,show (decide ((k:Int)<(e.Kids.length:Int)))=false by rw [decide_eq_false_iff_not];omega];rfl
 |x::r,k,n,hr,hkl,hn,hb=>by
  obtain⟨h1,h2⟩:=JT hr
  rw [Fs]
  by_cases c:n<0
  . rw [if_pos c]
    refine⟨Ev.step (f:=fun _=>some n) (fun m=>?_) Ev.pure,hn⟩
    rw [ES,QY h2,cond_true,decide_eq_false (by omega)];rfl
  . rw [if_neg c]
    have hmem:x∈e.Kids:=List.mem_of_mem_drop (by rw [hr];simp)
    obtain⟨f1,f2⟩:=hf x hmem n (by omega) (by omega)
    have f3:=KH x n
    obtain⟨i1,i2⟩:=Qx e hf r (k+1) (FX x n) h1 (by omega) f2 (by omega)
    refine⟨Ev.step (f:=fun m=>(BB m x n).bind fun n3=>BO m e n3 ((k+1:Nat):Int)) (fun m=>?_) (Ev.bind f1 i1),i2⟩
    rw [ES,QY h2,cond_true,decide_eq_true (by omega),Option.bind_some,cond_true,Sq hr,Option.bind_some,RY (by omega)]
mutual
theorem Sk:∀ (e:Ab) (n:Int),0<=n->n<=1000->Ev (fun k=>BB k e n) (FX e n)/\-1<=FX e n
 |.mk op num s kids at0,n,h0,h1=>by
  have h:=Qx (.mk op num s kids at0) (Qw kids) kids 0 (n-1) rfl (Nat.zero_le _) (by omega) (by simp;omega)
  rw [FX]
  refine⟨Ev.step (fun k=>Mk k (.mk op num s kids at0) n) (Ev.bind ?_ Ev.pure),h.2⟩
  rw [Ed (by omega) (by omega)]
  exact h.1
theorem Qw:∀ (l:List Ab),∀ x∈l,∀ n,0<=n->n<=1000->Ev (fun k=>BB k x n) (FX x n)/\-1<=FX x n
 | [],x,hx=>by simp at hx
 |e::l,x,hx=>by
  rcases List.mem_cons.1 hx with hx|hx
  . rw [hx];exact Sk e
  . exact Qw l x hx
end
theorem QB (e:Ab)(n:Int)(h0:0<=n)(h1:n<=1000):Ev (fun k=>E1 k e n) (decide (0<=FX e n)):=by
 unfold E1
 have h:Ab.mk e.Op e.N e.S e.Kids e.At=e:=by cases e;rfl
 rw [h]
 exact Ev.bind (Sk e n h0 h1).1 Ev.pure
end Go.Sp
namespace Go.Sp
open Go
set_option maxRecDepth 100000
theorem PR:Od=some true:=by kernel_rfl
end Go.Sp
namespace Go.Sp
open Go
set_option maxRecDepth 100000
theorem eta (e:Ab):Ab.mk e.Op e.N e.S e.Kids e.At=e:=by cases e;rfl
def GB (e:Ab)(m:Ah):Int×Int :=
 if (CM e).2.2.E≠0 then (0,(CM e).2.2.E) else if CC m.d m.known≠0 then (0,CC m.d m.known) else (NJ m e,0)
theorem Ux {e:Ab}(h:F7 e=true):Jt e=some (CM e):=by unfold Jt;rw [if_pos h]
theorem J3 (e:Ab)(d:A1)(known:Int)(hs:F7 e=true):Ev (fun n=>BM n e d known) (GB e ⟨d,known⟩):=by
 unfold BM GB
 simp only [eta,Ux hs,Option.bind_some]
 by_cases c:(CM e).2.2.E=0
 . rw [show ((CM e).2.2.E != 0)=false by simpa using c,if_neg (by simpa using c)]
   simp only [cond_false]
   refine Ev.bind (Na d known) ?_
   by_cases c2:CC d known=0
   . have hv:PC e ⟨d,known⟩=some (NJ ⟨d,known⟩ e):=by unfold PC;rw [if_pos ⟨hs,c,c2⟩]
     rw [show (CC d known != 0)=false by simpa using c2,if_neg (by simpa using c2)]
     simp only [cond_false,hv,Option.bind_some]
     exact Ev.pure
   . rw [show (CC d known != 0)=true by simpa using c2,if_pos c2]
     exact Ev.pure
 . rw [show ((CM e).2.2.E != 0)=true by simpa using c,if_pos c]
   exact Ev.pure
end Go.Sp
namespace Go.Sp
open Go
set_option maxRecDepth 100000
theorem TW {m m':Ah}(hl:∀ k w,F1 m k w=F1 m' k w)(d:Do)(x:List Int):NF m d x=NF m' d x:=by
 unfold NF
 split<;>first|rfl|exact hl _ _
mutual
theorem QC {m m':Ah}(hs:m.d.Stored=m'.d.Stored)(ho:m.d.Owner=m'.d.Owner)(hl:∀ k w,F1 m k w=F1 m' k w):∀ e,NJ m e=NJ m' e
 |.mk op n s kids p=>by
  rw [NJ,NJ,hs,ho,O5 hs ho hl kids,TW hl]
theorem O5 {m m':Ah}(hs:m.d.Stored=m'.d.Stored)(ho:m.d.Owner=m'.d.Owner)(hl:∀ k w,F1 m k w=F1 m' k w):∀ l,Kq m l=Kq m' l
 | []=>by rw [Kq,Kq]
 |e::l=>by rw [Kq,Kq,QC hs ho hl e,O5 hs ho hl l]
end
theorem L8 (p:Az->Bool):∀ (a b:List Az) (c:Option Az),D7 p (a++b) c=D7 p b (D7 p a c)
 | [],_,_=>rfl
 |x::a,b,c=>by rw [List.cons_append,D7,D7,L8 p a b]
theorem Kt {p:Az->Bool}:∀ {a:List Az} {c:Option Az},(∀ x∈a,p x=false)->D7 p a c=c
 | [],_,_=>rfl
 |x::a,c,h=>by
  rw [D7,h x (by simp),Bool.false_and,if_neg (by simp),Kt fun y hy=>h y (List.mem_cons_of_mem _ hy)]
theorem Ks {a b:Int}(hab:a<=b)(kind who:Int):∀ (l:List Az) (c:Option Az),D7 (NH b kind who) (l.filter fun f=>decide (f.Known<=a)) c=D7 (NH a kind who) l c
 | [],_=>rfl
 |f::l,c=>by
  by_cases h:f.Known<=a
  . have e:NH b kind who f=NH a kind who f:=by
     unfold NH
     rw [decide_eq_true h,decide_eq_true (show f.Known<=b by omega)]
    rw [List.filter_cons,if_pos (by simpa using h),D7,D7,e,Ks hab kind who l]
  . have e:NH a kind who f=false:=by
     unfold NH
     rw [decide_eq_false h,Bool.and_false,Bool.and_false]
    rw [List.filter_cons,if_neg (by simpa using h),D7,e,Bool.false_and,if_neg (by simp),Ks hab kind who l]
theorem Tv {a kind who:Int}{x:Az}{l r:List Az}(h:∀ y∈l,¬ (y.Kind=x.Kind/\y.Who=x.Who)):D7 (NH a kind who) (x::(l++r)) none=D7 (NH a kind who) (l++x::r) none:=by
 rw [D7,L8,L8,D7]
 cases hx:NH a kind who x with
 |false=>simp only [Bool.false_and,Bool.false_eq_true,if_false]
 |true =>
  have hl:∀ y∈l,NH a kind who y=false:=by
   intro y hy
   have h1:=h y hy
   unfold NH at hx ⊢
   simp only [Bool.and_eq_true,beq_iff_eq,decide_eq_true_eq] at hx
   rw [Bool.eq_false_iff]
   intro h2
   simp only [Bool.and_eq_true,beq_iff_eq,decide_eq_true_eq] at h2
   exact h1 ⟨by omega,by omega⟩
  rw [Kt hl,Kt hl]
  try rfl
theorem SX {d:A1}{a b:Int}{fs:List Az}(h:CC d a=0)(hb:0<=b/\b<=41666)(hl:fs.length<=200)(hf:∀ f∈fs,f∈d.Facts):CC ⟨fs,d.Stored,d.Owner⟩ b=0:=by
 have hm:=Pb (m:=⟨d,a⟩) h
 unfold CC
 rw [if_neg (by show ¬ 200<fs.length;omega),if_pos ?_]
 exact⟨List.all_eq_true.2 fun f h=>hm.facts f (hf f h),hm.st.1,hm.st.2,hb.1,hb.2,hm.ow.1,hm.ow.2⟩
theorem Un {α:Type}{b:Nat}{x y:List α}(h:(x.length+y.length)*b<=140737488355328):C0 b x y=some (x++y):=by unfold C0;rw [if_pos h]
theorem L1 (d:A1)(days:Int×Int)(hl:d.Facts.length<=200):∀ (r:List Az) (k:Nat) (acc:List Az),d.Facts.drop k=r->k<=d.Facts.length->acc.length<=k ->
 Ev (fun n=>AV n d days (k:Int) acc) (acc++r.filter fun f=>decide (f.Known<=days.1))
 | [],k,acc,hr,hk,ha=>by
  have he:=Ps hr hk
  refine Ev.step (f:=fun n=>some acc) (fun n=>?_) (by rw [List.filter_nil,List.append_nil];exact Ev.pure)
  rw [C9,show (decide ((k:Int)<(d.Facts.length:Int)))=false by rw [decide_eq_false_iff_not];omega];rfl
 |f::r,k,acc,hr,hk,ha=>by
  obtain⟨h1,h2⟩:=JT hr
  have hg:=Sq hr
  by_cases c:f.Known<=days.1
  . have h3:=L1 d days hl r (k+1) (acc++[f]) h1 (by omega) (by simp;omega)
    rw [List.append_assoc] at h3
    refine Ev.step (fun n=>?_) (by rw [List.filter_cons,if_pos (by simpa using c)];exact h3)
    rw [C9,QY h2,cond_true,hg,Option.bind_some,decide_eq_true c,cond_true,Option.bind_some,Un (by simp;omega),Option.bind_some,RY (by omega)]
  . have h3:=L1 d days hl r (k+1) acc h1 (by omega) (by omega)
    refine Ev.step (fun n=>?_) (by rw [List.filter_cons,if_neg (by simpa using c)];exact h3)
    rw [C9,QY h2,cond_true,hg,Option.bind_some,decide_eq_false c,cond_false,RY (by omega)]
def Ro (k:Nat):Nat->List Az->List Az
 |_,[]=>[]
 |i,x::r=>if i=k then Ro k (i+1) r else x::Ro k (i+1) r
theorem Se (k:Nat):∀ (r:List Az) (i:Nat),k<i->Ro k i r=r
 | [],_,_=>rfl
 |x::r,i,h=>by rw [Ro,if_neg (by omega),Se k r (i+1) (by omega)]
theorem TM (k:Nat):∀ (l:List Az) (i:Nat) (x:Az) (r:List Az),i+l.length=k->Ro k i (l++x::r)=l++r
 | [],i,x,r,h=>by
  have:i=k:=by simpa using h
  rw [List.nil_append,Ro,if_pos this,Se k r (i+1) (by omega)];rfl
 |y::l,i,x,r,h=>by
  rw [List.cons_append,Ro,if_neg (by simp at h;omega),TM k l (i+1) x r (by simp at h;omega)];rfl
theorem K2 (d:A1)(q:Nat)(hl:d.Facts.length<=200):∀ (r:List Az) (k:Nat) (acc:List Az),d.Facts.drop k=r->k<=d.Facts.length->acc.length<=k+1 ->
 Ev (fun n=>AY n d (q:Int) (k:Int) acc) (acc++Ro q k r)
 | [],k,acc,hr,hk,ha=>by
  have he:=Ps hr hk
  refine Ev.step (f:=fun n=>some acc) (fun n=>?_) (by rw [Ro,List.append_nil];exact Ev.pure)
  rw [CB,show (decide ((k:Int)<(d.Facts.length:Int)))=false by rw [decide_eq_false_iff_not];omega];rfl
 |f::r,k,acc,hr,hk,ha=>by
  obtain⟨h1,h2⟩:=JT hr
  have hg:=Sq hr
  by_cases c:k=q
  . have h3:=K2 d q hl r (k+1) acc h1 (by omega) (by omega)
    refine Ev.step (fun n=>?_) (by rw [Ro,if_pos c];exact h3)
    rw [CB,QY h2,cond_true,show ((k:Int) != (q:Int))=false by rw [c];simp,cond_false,RY (by omega)]
  . have h3:=K2 d q hl r (k+1) (acc++[f]) h1 (by omega) (by simp;omega)
    rw [List.append_assoc] at h3
    refine Ev.step (fun n=>?_) (by rw [Ro,if_neg c];exact h3)
    rw [CB,QY h2,cond_true,show ((k:Int) != (q:Int))=true by rw [bne_iff_ne];omega,cond_true,hg,Option.bind_some,Option.bind_some,Un (by simp;omega),Option.bind_some,RY (by omega)]
def Jz (y x:Az):Prop:=y.Kind=x.Kind/\y.Who=x.Who
instance (y x:Az):Decidable (Jz y x):=by unfold Jz;exact inferInstance
theorem OB (d:A1)(q:Nat)(x:Az)(r0:List Az)(hq:d.Facts.drop q=x::r0)(hl:d.Facts.length<=200):∀ (j k:Nat),k+j=q ->
 ∃ y,Ev (fun n=>AW n (q:Int) d (k:Int)) y/\(y=.inr true∨(y=.inl ()/\∀ f∈(d.Facts.take q).drop k,¬ Jz f x))
 |0,k,h=>by
  refine⟨.inl (),Ev.step (f:=fun _=>some (.inl ())) (fun n=>?_) Ev.pure,.inr ⟨rfl,fun f hf=>?_⟩⟩
  . rw [CA,show (decide ((k:Int)<(q:Int)))=false by rw [decide_eq_false_iff_not];omega];rfl
  . rw [List.drop_eq_nil_of_le (by rw [List.length_take];omega)] at hf;cases hf
 |j+1,k,h=>by
  obtain⟨_,h2⟩:=JT hq
  have hkl:k<d.Facts.length:=by omega
  have hk:d.Facts.drop k=d.Facts[k]::d.Facts.drop (k+1):=List.drop_eq_getElem_cons hkl
  have hg:=Sq hk
  have hgq:=Sq hq
  have hc:((gi d.Facts (k:Int)).bind fun x2=>(gi d.Facts (q:Int)).bind fun x3=>bif (x2.Kind == x3.Kind) then some (x2.Who == x3.Who) else some false)=some (decide (Jz d.Facts[k] x)):=by
   rw [hg,Option.bind_some,hgq,Option.bind_some]
   by_cases c1:d.Facts[k].Kind=x.Kind
   . rw [show (d.Facts[k].Kind == x.Kind)=true by simpa using c1,cond_true]
     by_cases c2:d.Facts[k].Who=x.Who
     . rw [show (d.Facts[k].Who == x.Who)=true by simpa using c2,decide_eq_true (show Jz d.Facts[k] x from ⟨c1,c2⟩)]
     . rw [show (d.Facts[k].Who == x.Who)=false by simpa using c2,decide_eq_false (show ¬ Jz d.Facts[k] x from fun h=>c2 h.2)]
   . rw [show (d.Facts[k].Kind == x.Kind)=false by simpa using c1,cond_false,decide_eq_false (show ¬ Jz d.Facts[k] x from fun h=>c1 h.1)]
  by_cases c:Jz d.Facts[k] x
  . refine⟨.inr true,Ev.step (f:=fun _=>some (.inr true)) (fun n=>?_) Ev.pure,.inl rfl⟩
    rw [CA,QY (show k<q by omega),cond_true,hc,Option.bind_some,decide_eq_true c,cond_true,PR];rfl
  . obtain⟨y,h3,h4⟩:=OB d q x r0 hq hl j (k+1) (by omega)
    refine⟨y,Ev.step (fun n=>?_) h3,h4.imp id fun h5=>⟨h5.1,fun f hf=>?_⟩⟩
    . rw [CA,QY (show k<q by omega),cond_true,hc,Option.bind_some,decide_eq_false c,cond_false,RY (by omega)]
    . have e:(d.Facts.take q).drop k=d.Facts[k]::(d.Facts.take q).drop (k+1):=by
       rw [List.drop_eq_getElem_cons (by rw [List.length_take];omega),List.getElem_take]
      rw [e] at hf
      rcases List.mem_cons.1 hf with rfl|hf
      . exact c
      . exact h5.2 f hf
theorem M3 {e:Ab}{d:A1}{a b:Int}{fs:List Az}(hd:CC d a=0)(hb:0<=b/\b<=41666)(hl:fs.length<=200)(hf:∀ f∈fs,f∈d.Facts)
 (hv:∀ k w,F1 ⟨⟨fs,d.Stored,d.Owner⟩,b⟩ k w=F1 ⟨d,a⟩ k w):GB e ⟨⟨fs,d.Stored,d.Owner⟩,b⟩=GB e ⟨d,a⟩:=by
 unfold GB
 have h1:CC (Ah.mk ⟨fs,d.Stored,d.Owner⟩ b).d (Ah.mk ⟨fs,d.Stored,d.Owner⟩ b).known=0:=SX hd hb hl hf
 have h2:CC (Ah.mk d a).d (Ah.mk d a).known=0:=hd
 rw [h1,h2,QC (m:=⟨⟨fs,d.Stored,d.Owner⟩,b⟩) (m':=⟨d,a⟩) rfl rfl hv e]
theorem R3 (e:Ab)(d:A1)(days:Int×Int)(at_:Int)(h0:0<=at_)(h255:at_<=255):Ev (fun n=>Du n e d days at_) true:=by
 obtain⟨a,b⟩:=days
 unfold Du
 simp only [eta,PR,Option.bind_some]
 refine Ev.bind (QB e 100 (by decide) (by decide)) ?_
 by_cases hfew:0<=FX e 100
 rotate_left
 . simp only [decide_eq_false hfew,Bool.not_false,cond_true,Option.bind_some];exact Ev.pure
 have hs:=MZ e 100 hfew (by decide)
 simp only [decide_eq_true hfew,Bool.not_true,cond_false]
 by_cases h60:(60:Int)<(d.Facts.length:Int)
 . simp only [decide_eq_true h60,cond_true,Option.bind_some];exact Ev.pure
 simp only [decide_eq_false h60,cond_false]
 by_cases hab:b<a
 . simp only [decide_eq_true hab,cond_true,Option.bind_some];exact Ev.pure
 simp only [decide_eq_false hab,cond_false]
 have hkn:Ev (fun n=>(BN n d a).bind fun k2=>bif (k2 != 0) then some true else (BN n d b).bind fun k3=>some (k3 != 0)) (CC d a != 0||CC d b != 0):=by
  refine Ev.bind (Na d a) ?_
  by_cases c:CC d a=0
  . rw [c];simp only [bne_self_eq_false,cond_false,Bool.false_or];exact Ev.bind (Na d b) Ev.pure
  . rw [show (CC d a != 0)=true by simpa using c];simp only [cond_true,Bool.true_or];exact Ev.pure
 refine Ev.bind hkn ?_
 by_cases ha:CC d a=0
 rotate_left
 . rw [show (CC d a != 0)=true by simpa using ha];exact Ev.pure
 by_cases hb:CC d b=0
 rotate_left
 . rw [show (CC d b != 0)=true by simpa using hb,Bool.or_true];exact Ev.pure
 rw [ha,hb]
 simp only [bne_self_eq_false,Bool.or_self,cond_false]
 have hma:=Pb (m:=⟨d,a⟩) ha
 have hmb:=Pb (m:=⟨d,b⟩) hb
 have hl:d.Facts.length<=60:=by omega
 refine Ev.bind (J3 e d a hs) ?_
 refine Ev.bind (L1 d (a,b) (by omega) d.Facts 0 [] rfl (Nat.zero_le _) (Nat.zero_le _)) ?_
 have hearly:GB e ⟨⟨[]++d.Facts.filter fun f=>decide (f.Known<=a),d.Stored,d.Owner⟩,b⟩=GB e ⟨d,a⟩:=by
  refine M3 ha hmb.kn ?_ (fun f hf=>(List.mem_filter.1 hf).1) fun k w=>?_
  . have:=List.length_filter_le (fun f:Az=>decide (f.Known<=a)) d.Facts
    rw [List.nil_append];omega
  . unfold F1
    exact congrArg VA (Ks (Int.not_lt.1 hab) k w d.Facts none)
 refine Ev.bind (J3 e _ b hs) ?_
 rw [hearly]
 simp only [bne_self_eq_false,cond_false,Option.bind_some]
 by_cases hn:d.Facts.length=0
 . have hnil:d.Facts=[]:=List.length_eq_zero_iff.1 hn
   simp only [hn,Int.ofNat_zero,Int.lt_irrefl,decide_false,cond_false,Option.bind_some]
   refine Ev.bind (K2 d 0 (by omega) d.Facts 0 [] rfl (Nat.zero_le _) (by simp)) ?_
   have e2:GB e ⟨⟨[]++Ro 0 0 d.Facts,d.Stored,d.Owner⟩,a⟩=GB e ⟨d,a⟩:=by
    rw [hnil,Ro,List.nil_append,<- hnil]
   refine Ev.bind (J3 e _ a hs) ?_
   rw [e2]
   simp only [beq_self_eq_true,cond_true,Option.bind_some]
   exact Ev.pure
 . have hpos:(0:Int)<(d.Facts.length:Int):=by omega
   simp only [decide_eq_true hpos,cond_true]
   obtain⟨q,hq1,hq2⟩:∃ q:Nat,(IntKind.i64.wrap at_).tmod (d.Facts.length:Int)=(q:Int)/\q<d.Facts.length:=by
    rw [Ed (by omega) (by omega)]
    refine⟨at_.toNat % d.Facts.length,?_,Nat.mod_lt _ (by omega)⟩
    rw [Int.tmod_eq_emod_of_nonneg h0,Int.natCast_emod,Int.toNat_of_nonneg h0]
   rw [hq1]
   have hgz:V2 (d.Facts.length:Int) (q:Int)=some (q:Int):=by unfold V2;rw [if_pos (by omega)]
   have hdq:d.Facts.drop q=d.Facts[q]::d.Facts.drop (q+1):=List.drop_eq_getElem_cons hq2
   obtain⟨y,hy,hy2⟩:=OB d q d.Facts[q] _ hdq (by omega) q 0 (by omega)
   rcases hy2 with rfl|⟨rfl,hy2⟩
   . have h1:Ev (fun n=>(V2 (d.Facts.length:Int) (q:Int)).bind fun q=>(AW n q d 0).bind fun y6=>match y6 with
      |.inl _=>(gi d.Facts q).bind fun x1=>(some [x1]).bind fun l2=>(C0 33 [] l2).bind fun l3=>some (.inl (q,l3))
      |.inr o=>some (.inr o)) (.inr true:(Int×List Az) ⊕ Bool):=by
      rw [hgz];simp only [Option.bind_some]
      exact Ev.bind hy Ev.pure
     exact Ev.bind h1 Ev.pure
   . have h1:Ev (fun n=>(V2 (d.Facts.length:Int) (q:Int)).bind fun q=>(AW n q d 0).bind fun y6=>match y6 with
      |.inl _=>(gi d.Facts q).bind fun x1=>(some [x1]).bind fun l2=>(C0 33 [] l2).bind fun l3=>some (.inl (q,l3))
      |.inr o=>some (.inr o)) (.inl ((q:Int),[d.Facts[q]]):(Int×List Az) ⊕ Bool):=by
      rw [hgz];simp only [Option.bind_some]
      refine Ev.bind hy ?_
      simp only [Sq hdq,Option.bind_some,Un (b:=33) (x:=([]:List Az)) (y:=[d.Facts[q]]) (by simp),List.nil_append]
      exact Ev.pure
     refine Ev.bind h1 ?_
     simp only
     refine Ev.bind (K2 d q (by omega) d.Facts 0 [d.Facts[q]] rfl (Nat.zero_le _) (by simp)) ?_
     have hsplit:d.Facts=d.Facts.take q++d.Facts[q]::d.Facts.drop (q+1):=by rw [<- hdq,List.take_append_drop]
     have hr:Ro q 0 d.Facts=d.Facts.take q++d.Facts.drop (q+1):=by
      conv=>lhs;rw [hsplit]
      exact TM q _ 0 _ _ (by rw [List.length_take];omega)
     have e2:GB e ⟨⟨[d.Facts[q]]++Ro q 0 d.Facts,d.Stored,d.Owner⟩,a⟩=GB e ⟨d,a⟩:=by
      rw [hr]
      refine M3 ha hma.kn ?_ (fun f hf=>?_) fun k w=>?_
      . simp only [List.length_append,List.length_cons,List.length_nil,List.length_take,List.length_drop];omega
      . rcases List.mem_append.1 hf with h|h
        . rw [List.mem_singleton.1 h];exact List.getElem_mem _
        . rcases List.mem_append.1 h with h|h
          . exact List.mem_of_mem_take h
          . exact List.mem_of_mem_drop h
      . unfold F1
        refine congrArg VA ?_
        show D7 (NH a k w) (d.Facts[q]::(d.Facts.take q++d.Facts.drop (q+1))) none=D7 (NH a k w) d.Facts none
        rw [Tv fun y hy=>hy2 y (by rw [List.drop_zero];exact hy),<- hsplit]
     refine Ev.bind (J3 e _ a hs) ?_
     rw [e2]
     simp only [beq_self_eq_true,cond_true,Option.bind_some]
     exact Ev.pure
end Go.Sp
