/-
  The specification's Type, Known and Last, in plain words. No program.
-/
import Derived.Test.YtkcfmlfkfagejaaGreatDoorU18
set_option linter.unusedVariables false
set_option linter.unusedSimpArgs false
namespace Go.Sp
open Go
set_option maxRecDepth 100000
theorem OS:∀ o∈CO,IM o.kind:=by
 have h:(CO.all fun o=>decide (1<=o.kind/\o.kind<=4))=true:=by kernel_rfl
 rw [List.all_eq_true] at h
 intro o ho
 exact of_decide_eq_true (p:=1<=o.kind/\o.kind<=4) (h o ho)
theorem SA (s:ByteArray)(h:(Bh B8 s).2=true):IM (Bh B8 s).1:=by
 unfold IM
 unfold B8 at h ⊢
 unfold Bh at h ⊢
 split
 . decide
 rename_i c1
 rw [if_neg c1] at h
 unfold Bh at h ⊢
 split
 . decide
 rename_i c2
 rw [if_neg c2] at h
 unfold Bh at h ⊢
 split
 . decide
 rename_i c3
 rw [if_neg c3] at h
 unfold Bh at h ⊢
 split
 . decide
 . rename_i c4
   rw [if_neg c4] at h
   cases h
theorem Yx {e:Aa}(h:(AN e).2.2.E=0):IM (AN e).1/\(AN e).2.2=⟨0,0⟩:=by
 obtain⟨op,num,str,kids,at0⟩:=e
 obtain⟨ts,_,h2⟩:=Mz h
 rcases h2 with⟨_,_,_,_,hf⟩|⟨_,h3,_,hf⟩|⟨_,_,o,ho,_,_,hf⟩
 . rw [hf];exact⟨⟨by decide,by decide⟩,rfl⟩
 . rw [hf];exact⟨SA str h3,rfl⟩
 . rw [hf];exact⟨OS o ho,rfl⟩
theorem Ov:∀ {l:List Aa} {ts:List Int},BB l=.inl ts->(∀ t∈ts,IM t)/\ts.length=l.length
 | [],ts,h=>by
  rw [BB] at h;cases h
  exact⟨fun t ht=>by simp at ht,rfl⟩
 |e::l,ts,h=>by
  rw [BB] at h
  by_cases c:(AN e).2.2.E=0
  . rw [if_neg (by simpa using c)] at h
    cases h2:BB l with
    |inr o=>rw [h2] at h;cases h
    |inl us =>
     rw [h2] at h;cases h
     obtain⟨k1,k2⟩:=Ov h2
     refine⟨fun t ht=>?_,by simp [k2]⟩
     rcases List.mem_cons.1 ht with rfl|ht
     . exact (Yx c).1
     . exact k1 t ht
  . rw [if_pos c] at h;cases h
theorem Qa:∀ {l:List Aa} {o:Int×Ab×Av},BB l=.inr o->o.1=0/\o.2.2.E≠0
 | [],o,h=>by rw [BB] at h;cases h
 |e::l,o,h=>by
  rw [BB] at h
  split at h
  . rename_i h1;cases h;exact⟨rfl,h1⟩
  . split at h
    . cases h
    . rename_i h2;cases h;exact Qa h2
theorem Xo {e:Aa}(h:(AN e).2.2.E≠0):(AN e).1=0:=by
 obtain⟨op,num,str,kids,at0⟩:=e
 rw [AN] at h ⊢
 by_cases c:op<1∨20<op∨(0<=arity op/\(kids.length:Int)≠arity op)
 . rw [if_pos c]
 rw [if_neg c] at h ⊢
 cases ht:BB kids with
 |inr o=>exact (Qa ht).1
 |inl ts =>
  rw [ht] at h
  simp only at h ⊢
  by_cases h1:op=1
  . rw [if_pos h1] at h ⊢
    split
    . rfl
    . rename_i h2;rw [if_neg h2] at h;exact absurd rfl h
  rw [if_neg h1] at h ⊢
  by_cases h2:op=2
  . rw [if_pos h2]
  rw [if_neg h2] at h ⊢
  by_cases h3:op=3
  . rw [if_pos h3] at h ⊢
    split
    . rename_i h4;rw [if_pos h4] at h;exact absurd rfl h
    . rfl
  rw [if_neg h3] at h ⊢
  unfold AV at h ⊢
  cases hp:pick op str ts CO with
  |some o=>rw [hp] at h;exact absurd rfl h
  |none =>
   simp only
   split
   . rfl
   . split<;>rfl
def GV (e:Aa):BI:=⟨(AN e).1,(AN e).2.2⟩
theorem RQ (e:Aa)(hk:e.Kids.length<=1000000)(hf:∀ x∈e.Kids,Ev (fun n=>AT n x) (GV x)) :
 ∀ (r:List Aa) (k:Nat) (ts:List Int),e.Kids.drop k=r->k<=e.Kids.length->ts.length=k->Ev (fun n=>Cj n e ts (k:Int)) (match BB r with|.inl us=>.inl (ts++us)|.inr o=>.inr ⟨o.1,o.2.2⟩)
 | [],k,ts,hr,hkl,_=>by
  have he:=KK hr hkl
  refine Ev.step (f:=fun n=>some (.inl ts)) (fun n=>?_) ?_
  . rw [Ic,show (decide ((k:Int)<(e.Kids.length:Int)))=false by rw [decide_eq_false_iff_not];omega];rfl
  . rw [BB];simp only [List.append_nil];exact Ev.pure
 |x::r,k,ts,hr,hkl,hts=>by
  obtain⟨h1,h2⟩:=G5 hr
  have hmem:x∈e.Kids:=List.mem_of_mem_drop (by rw [hr];simp)
  refine Ev.step (f:=fun n=>(AT n x).bind fun x1=>bif (x1.P.E != 0) then some (.inr x1) else Cj n e (ts++[x1.T]) ((k+1:Nat):Int)) (fun n=>?_) ?_
  . rw [Ic,PK h2,cond_true,Rk hr,Option.bind_some]
    congr 1
    funext x1
    rw [Option.bind_some,UR (by omega) (by simp),Option.bind_some,P4 (by omega)]
  . refine Ev.bind (hf x hmem) ?_
    rw [BB]
    by_cases c:(AN x).2.2.E=0
    . have ih:=RQ e hk hf r (k+1) (ts++[(AN x).1]) h1 (by omega) (by simp [hts])
      have b:((GV x).P.E != 0)=false:=by simpa [GV] using c
      simp only [b,cond_false]
      rw [if_neg (by simpa using c)]
      cases ht:BB r with
      |inl us=>rw [ht] at ih;simpa [List.append_assoc,GV] using ih
      |inr o=>rw [ht] at ih;exact ih
    . have b:((GV x).P.E != 0)=true:=by simpa [GV] using c
      simp only [b,cond_true]
      rw [if_pos c]
      have:GV x=⟨0,(AN x).2.2⟩:=by unfold GV;rw [Xo c]
      rw [this];exact Ev.pure
theorem Vi (s:ByteArray):(bif (decide (s=⟨#[121,101,97,114]⟩)) then some ((1:Int),(7:Int)) else
 ((bif (decide (s=⟨#[115,116,111,114,101,100]⟩)) then some (decide (s=⟨#[115,116,111,114,101,100]⟩)) else some (decide (s=⟨#[110,101,118,101,114]⟩))):Option Bool).bind fun v84 =>
  bif v84 then some (2,7) else bif (decide (s=⟨#[111,119,110,101,114]⟩)) then some (4,7) else some (0,6)) =
 some (if (Bh B8 s).2=true then ((Bh B8 s).1,7) else (0,6)):=by
 unfold B8
 by_cases c1:s=⟨#[121,101,97,114]⟩
 . subst c1;rfl
 rw [decide_eq_false c1,cond_false]
 by_cases c2:s=⟨#[115,116,111,114,101,100]⟩
 . subst c2;rfl
 rw [decide_eq_false c2,cond_false]
 by_cases c3:s=⟨#[110,101,118,101,114]⟩
 . subst c3;rfl
 rw [decide_eq_false c3,Option.bind_some,cond_false]
 by_cases c4:s=⟨#[111,119,110,101,114]⟩
 . subst c4;rfl
 rw [decide_eq_false c4,cond_false]
 unfold Bh;rw [if_neg c1]
 unfold Bh;rw [if_neg c2]
 unfold Bh;rw [if_neg c3]
 unfold Bh;rw [if_neg c4]
 unfold Bh;rfl
theorem Vo (e:Aa)(hk:e.Kids.length<=1000000)(hf:∀ x∈e.Kids,Ev (fun n=>AT n x) (GV x)):Ev (fun n=>AT n e) (GV e):=by
 obtain⟨op,num,str,kids,at0⟩:=e
 simp only at hk hf
 have hkids:=RQ ⟨op,num,str,kids,at0⟩ hk hf kids 0 [] rfl (Nat.zero_le _) rfl
 refine Ev.step (fun n=>NR n ⟨op,num,str,kids,at0⟩) ?_
 unfold GV
 rw [AN]
 obtain⟨v,hv⟩:=MR op
 simp only [hv,Option.bind_some]
 have hc:((bif (decide (op<1)) then some true else bif (decide (20<op)) then some true else bif (decide (0<=v)) then some ((kids.length:Int) != v) else some false):Option Bool) =
  some (decide (op<1∨20<op∨(0<=arity op/\(kids.length:Int)≠arity op))):=by
  by_cases c1:op<1
  . simp [c1]
  have:v=arity op:=by have:=K1 op (by omega);rw [hv] at this;exact Ah this
  subst this
  by_cases c2:20<op
  . simp [c1,c2]
  by_cases c3:0<=arity op
  . by_cases c4:(kids.length:Int)=arity op
    . simp [c1,c2,c3,c4]
    . simp [c1,c2,c3,c4]
  . simp [c1,c2,c3]
 simp only [hc,Option.bind_some]
 by_cases c:op<1∨20<op∨(0<=arity op/\(kids.length:Int)≠arity op)
 . rw [if_pos c]
   simp only [decide_eq_true c,cond_true]
   exact Ev.pure
 . rw [if_neg c]
   simp only [decide_eq_false c,cond_false]
   refine Ev.bind hkids ?_
   cases ht:BB kids with
   |inr o=>exact Ev.pure
   |inl ts =>
    obtain⟨t1,t2⟩:=Ov ht
    simp only [List.nil_append]
    by_cases h1:op=1
    . subst h1
      simp only [beq_self_eq_true,cond_true,if_true]
      by_cases n1:num<0
      . simp only [n1,decide_true,cond_true,Option.bind_some,true_or,if_true];exact Ev.pure
      . by_cases n2:999999999999999<num
        . simp only [n1,n2,decide_true,decide_false,cond_true,cond_false,Option.bind_some,or_true,if_true];exact Ev.pure
        . simp only [n1,n2,decide_false,cond_false,Option.bind_some,or_self,if_false];exact Ev.pure
    simp only [show (op == 1)=false by simpa using h1,cond_false,if_neg h1]
    by_cases h2:op=2
    . subst h2
      simp only [beq_self_eq_true,cond_true,if_true,Option.bind_some];exact Ev.pure
    simp only [show (op == 2)=false by simpa using h2,cond_false,if_neg h2]
    by_cases h3:op=3
    . subst h3
      simp only [beq_self_eq_true,cond_true,if_true,Vi,Option.bind_some]
      cases hg:(Bh B8 str).2 with
      |true =>
       have h4:=SA str hg
       unfold IM at h4
       simp only [if_true]
       rw [show ((Bh B8 str).1 == 0)=false by simp;omega]
       exact Ev.pure
      |false=>simp only [Bool.false_eq_true,if_false];exact Ev.pure
    simp only [show (op == 3)=false by simpa using h3,cond_false,if_neg h3]
    by_cases h4:op=4
    . subst h4
      simp only [beq_self_eq_true,cond_true,Y8 str ts t1,Option.bind_some]
      unfold AV
      cases hp:pick 4 str ts CO with
      |some o =>
       have hp2:=hp
       unfold pick at hp2
       have h5:=OS o (List.mem_of_find?_eq_some hp2)
       unfold IM at h5
       simp only [Hw]
       rw [show (o.kind == 0)=false by simp;omega]
       exact Ev.pure
      |none =>
       simp only [Bool.false_or,Hw]
       cases known 4 str CO with
       |false=>exact Ev.pure
       |true =>
        cases Gr 4 str ts CO with
        |false=>exact Ev.pure
        |true=>exact Ev.pure
    . have hl:(ts.length:Int)=arity op:=by
       rw [t2]
       by_cases c2:(kids.length:Int)=arity op
       . exact c2
       . exact absurd (.inr (.inr ⟨by unfold arity;(repeat' split)<;>first|omega|decide,c2⟩)) c
      simp only [show (op == 4)=false by simpa using h4,cond_false,Vx (show 5<=op by omega) (show op<=20 by omega) str hl t1,Option.bind_some]
      unfold AV
      cases hp:pick op str ts CO with
      |some o =>
       have hp2:=hp
       unfold pick at hp2
       have h5:=OS o (List.mem_of_find?_eq_some hp2)
       unfold IM at h5
       simp only [Rg]
       rw [show (o.kind == 0)=false by simp;omega]
       exact Ev.pure
      |none =>
       simp only [Rg,h4,false_and,if_false]
       exact Ev.pure
mutual
theorem Md:∀ (e:Aa),Cs e=true->Ev (fun n=>AT n e) (GV e)
 |.mk op num str kids at0,h=>by
  rw [Cs,Bool.and_eq_true,decide_eq_true_eq] at h
  exact Vo _ h.1 (RP kids h.2)
theorem RP:∀ (l:List Aa),F0 l=true->∀ x∈l,Ev (fun n=>AT n x) (GV x)
 | [],_,x,hx=>by simp at hx
 |e::l,h,x,hx=>by
  rw [F0,Bool.and_eq_true] at h
  rcases List.mem_cons.1 hx with hx|hx
  . rw [hx];exact Md e h.1
  . exact RP l h.2 x hx
end
end Go.Sp
