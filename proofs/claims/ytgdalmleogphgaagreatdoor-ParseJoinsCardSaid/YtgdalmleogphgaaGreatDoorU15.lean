/-
  The reference's comparison: what is of a fine size is the same as itself; and the forms that the reference reads are of such a size. No program.
-/
import Derived.Test.YtgdalmleogphgaaGreatDoorU11
namespace Go.Sp
open Go
theorem gi_lt {α:Type}{l:List α}{j:Nat}(h:j<l.length):gi l (j:Int)=some l[j]:=by
 unfold gi
 rw [if_pos (by omega),Int.toNat_natCast,List.getElem?_eq_getElem h]
theorem wrapJ {j m:Nat}(h:j<m)(hm:m<=140737488355328):IntKind.i64.wrap ((j:Int)+1)=((j+1:Nat):Int):=by
 rw [wrap_id]<;>omega
theorem sameE_refl {o:Bool}{e:api_Expr}(h:FineE e):Ev (fun n=>ref32_SameExpr n e e o) true:=by
 induction h with
 |mk e hl _ ih =>
  have loop:∀ (r j:Nat),e.Kids.length-j<=r->j<=e.Kids.length->Ev (fun n=>ref32_SameExpr_l1 n e e o (j:Int)) (.inl ()):=by
   intro r
   induction r with
   |zero =>
    intro j h1 h2
    refine Ev.step (fun n=>ref32_SameExpr_l1.eq_2 (n:=n) _ _ _ _) (Ev.of fun n=>?_)
    rw [decide_eq_false (by omega)];rfl
   |succ r ihr =>
    intro j h1 h2
    by_cases h3:j<e.Kids.length
    . refine Ev.step (fun n=>ref32_SameExpr_l1.eq_2 (n:=n) _ _ _ _) ?_
      simp only [decide_eq_true (show (j:Int)<(e.Kids.length:Int) by omega),cond_true,gi_lt h3,Option.bind_some,wrapJ h3 (show e.Kids.length<=140737488355328 by omega)]
      exact Ev.bind (ih _ (List.getElem_mem h3)) (by simp only [Bool.not_true,cond_false];exact ihr (j+1) (by omega) (by omega))
    . refine Ev.step (fun n=>ref32_SameExpr_l1.eq_2 (n:=n) _ _ _ _) (Ev.of fun n=>?_)
      rw [decide_eq_false (by omega)];rfl
  refine Ev.step (fun n=>ref32_SameExpr.eq_2 (n:=n) _ _ _) ?_
  simp only [bne_self_eq_false,decide_true,Bool.not_true,cond_false,Bool.cond_self,Option.bind_some]
  have hi:∀ (c:Bool) (x:Option Bool),x=some true->(bif c then some true else x)=some true:=fun c x h=>by cases c<;>simp [h]
  have hb:∃ v,(bif decide (1<=e.Op) then some (decide (e.Op<=3)) else some false:Option Bool)=some v:=by
   cases decide (1<=e.Op)<;>exact⟨_,rfl⟩
  obtain⟨v,hv⟩:=hb
  simp only [hv,Option.bind_some]
  cases v with
  |true=>exact Ev.pure
  |false =>
   simp only [cond_false]
   exact Ev.bind (loop e.Kids.length 0 (by omega) (by omega)) Ev.pure
theorem sameA_refl {o:Bool}{a:api_Arg}(h:FineE a.E):Ev (fun n=>ref32_SameArg n a a o) true:=by
 have e:∀ n,ref32_SameArg n a a o=((bif (a.Kind != 5) then some true else (ref32_SameExpr n a.E a.E o).bind fun s=>some s:Option Bool).bind fun v6=>some v6):=by
  intro n
  unfold ref32_SameArg
  simp only [bne_self_eq_false,decide_true,Bool.not_true,cond_false,Bool.cond_self,Option.bind_some]
 refine Ev.congr ?_ e
 cases a.Kind != 5 with
 |true=>exact Ev.pure
 |false =>
  simp only [cond_false]
  exact Ev.bind (Ev.bind (sameE_refl h) Ev.pure) Ev.pure
inductive FineF:api_Form->Prop where
 |mk (f:api_Form) (ha:f.Args.length<=1340357031955) (hx:∀ a∈f.Args,FineE a.E) (hb:f.Body.length<=1927910799388) (h:∀ x∈f.Body,FineF x):FineF f
def FineL (l:List api_Form):Prop:=l.length<=1927910799388/\∀ x∈l,FineF x
theorem sameF_refl {o:Bool}{l:List api_Form}(hl:l.length<=140737488355328)(hf:∀ x∈l,FineF x/\Ev (fun n=>ref32_Same n x.Body x.Body o) true):Ev (fun n=>ref32_Same n l l o) true:=by
 have loop2:∀ (k:Nat) (hk:k<l.length) (r j:Nat),l[k].Args.length-j<=r->j<=l[k].Args.length->Ev (fun n=>ref32_Same_l2 n l (k:Int) l o (j:Int)) (.inl ()):=by
  intro k hk r
  have fk:=(hf _ (List.getElem_mem hk)).1
  cases fk with
  |mk _ ha hx hb h =>
  induction r with
  |zero =>
   intro j h1 h2
   refine Ev.step (fun n=>ref32_Same_l2.eq_2 (n:=n) _ _ _ _ _) (Ev.of fun n=>?_)
   simp only [gi_lt hk,Option.bind_some]
   rw [decide_eq_false (by omega)];rfl
  |succ r ihr =>
   intro j h1 h2
   by_cases h3:j<l[k].Args.length
   . refine Ev.step (fun n=>ref32_Same_l2.eq_2 (n:=n) _ _ _ _ _) ?_
     simp only [gi_lt hk,Option.bind_some,decide_eq_true (show (j:Int)<(l[k].Args.length:Int) by omega),cond_true,gi_lt h3,wrapJ h3 (show l[k].Args.length<=140737488355328 by omega)]
     exact Ev.bind (sameA_refl (hx _ (List.getElem_mem h3))) (by simp only [Bool.not_true,cond_false];exact ihr (j+1) (by omega) (by omega))
   . refine Ev.step (fun n=>ref32_Same_l2.eq_2 (n:=n) _ _ _ _ _) (Ev.of fun n=>?_)
     simp only [gi_lt hk,Option.bind_some]
     rw [decide_eq_false (by omega)];rfl
 have loop1:∀ (r j:Nat),l.length-j<=r->j<=l.length->Ev (fun n=>ref32_Same_l1 n l l o (j:Int)) (.inl ()):=by
  intro r
  induction r with
  |zero =>
   intro j h1 h2
   refine Ev.step (fun n=>ref32_Same_l1.eq_2 (n:=n) _ _ _ _) (Ev.of fun n=>?_)
   rw [decide_eq_false (by omega)];rfl
  |succ r ihr =>
   intro j h1 h2
   by_cases h3:j<l.length
   . refine Ev.step (fun n=>ref32_Same_l1.eq_2 (n:=n) _ _ _ _) ?_
     simp only [decide_eq_true (show (j:Int)<(l.length:Int) by omega),cond_true,gi_lt h3,Option.bind_some,bne_self_eq_false,decide_true,Bool.not_true,cond_false,Bool.cond_self,wrapJ h3 hl]
     refine Ev.bind (loop2 j h3 _ 0 (Nat.le_refl _) (by omega)) ?_
     exact Ev.bind (hf _ (List.getElem_mem h3)).2 (by simp only [Bool.not_true,cond_false];exact ihr (j+1) (by omega) (by omega))
   . refine Ev.step (fun n=>ref32_Same_l1.eq_2 (n:=n) _ _ _ _) (Ev.of fun n=>?_)
     rw [decide_eq_false (by omega)];rfl
 refine Ev.step (fun n=>ref32_Same.eq_2 (n:=n) _ _ _) ?_
 simp only [bne_self_eq_false,cond_false]
 exact Ev.bind (loop1 l.length 0 (by omega) (by omega)) Ev.pure
theorem sameB_refl {o:Bool}{f:api_Form}(h:FineF f):Ev (fun n=>ref32_Same n f.Body f.Body o) true:=by
 induction h with
 |mk f ha hx hb h ih=>exact sameF_refl (by omega) fun x hx=>⟨h x hx,ih x hx⟩
theorem same_refl {o:Bool}{l:List api_Form}(h:FineL l):Ev (fun n=>ref32_Same n l l o) true:=sameF_refl (Nat.le_trans h.1 (by decide)) fun x hx=>⟨h.2 x hx,sameB_refl (h.2 x hx)⟩
theorem fineL_app {x y z:List api_Form}(h:gapp 73 x y=some z)(h1:FineL x)(h2:∀ f∈y,FineF f):FineL z:=by
 have hm:=gapp_mul h
 obtain⟨rfl,_⟩:=gapp_len (by decide) h
 refine⟨by omega,fun e he=>?_⟩
 rcases List.mem_append.1 he with he|he
 . exact h1.2 e he
 . exact h2 e he
def FineAs (l:List api_Arg):Prop:=l.length<=1340357031955/\∀ a∈l,FineE a.E
theorem fineAs_app {x y z:List api_Arg}(h:gapp 105 x y=some z)(h1:FineAs x)(h2:∀ a∈y,FineE a.E):FineAs z:=by
 have hm:=gapp_mul h
 obtain⟨rfl,_⟩:=gapp_len (by decide) h
 refine⟨by omega,fun e he=>?_⟩
 rcases List.mem_append.1 he with he|he
 . exact h1.2 e he
 . exact h2 e he
theorem finArg {n:Nat}{l:List api_Token}{k:Int}{g:ref32_Arg}(h:ref32_arg n l k=some g):FineE g.A.E:=by
 have z:∀ {a b d:Int} {c:ByteArray},FineE ⟨a,b,c,[],d⟩:=fineK0.e
 unfold ref32_arg at h
 obtain⟨_,_,h⟩:=bindS h
 obtain⟨_,_,h⟩:=bindS h
 rcases condS h with⟨_,h⟩|⟨_,h⟩
 . obtain rfl:=Option.some.inj h;exact z
 obtain⟨_,_,h⟩:=bindS h
 rcases condS h with⟨_,h⟩|⟨_,h⟩
 . obtain rfl:=Option.some.inj h;exact z
 obtain⟨_,_,h⟩:=bindS h
 rcases condS h with⟨_,h⟩|⟨_,h⟩
 . obtain⟨_,_,h⟩:=bindS h
   rcases condS h with⟨_,h⟩|⟨_,h⟩
   . obtain rfl:=Option.some.inj h;exact z
   . obtain rfl:=Option.some.inj h;exact z
 obtain⟨x,hx,h⟩:=bindS h
 have fx:=(finA n).E _ _ _ _ hx
 rcases condS h with⟨_,h⟩|⟨_,h⟩
 . obtain rfl:=Option.some.inj h;exact z
 obtain⟨_,_,h⟩:=bindS h
 rcases condS h with⟨_,h⟩|⟨_,h⟩
 . obtain rfl:=Option.some.inj h;exact z
 . obtain rfl:=Option.some.inj h;exact fx
structure FinB (n:Nat):Prop where
 F:∀ l k d c g,ref32_form n l k d c=some g->FineF g.F
 L1:∀ l x ags d out to c g,FineAs ags->FineL out->ref32_form_l1 n l x ags d out to c=some g->FineF g.F
 L2:∀ l x c ags to r,FineAs ags->ref32_form_l2 n l x c ags to=some r->(∀ g,r=.inr g->FineF g.F)/\∀ a to,r=.inl (a,to)->FineAs a
theorem fineAs0:FineAs []:=⟨by simp,fun x hx=>by cases hx⟩
theorem fineL0:FineL []:=⟨by simp,fun x hx=>by cases hx⟩
theorem fineF {ags:List api_Arg}{out:List api_Form}(h1:FineAs ags)(h2:FineL out){s:ByteArray}{i:Int}:FineF ⟨s,ags,out,i⟩:=.mk _ h1.1 h1.2 h2.1 h2.2
theorem finB:∀ n,FinB n
 |0=>{
  F:=fun l k d c g h=>by simp [ref32_form] at h
  L1:=fun l x ags d out to c g _ _ h=>by simp [ref32_form_l1] at h
  L2:=fun l x c ags to r _ h=>by simp [ref32_form_l2] at h }
 |n+1=>by
  have ih:=finB n
  have z:∀ {s:ByteArray} {i:Int},FineF ⟨s,[],[],i⟩:=fineF fineAs0 fineL0
  refine⟨?_,?_,?_⟩
  . intro l k d c g h
    replace h:=(ref32_form.eq_2 (n:=n) _ _ _ _).symm.trans h
    obtain⟨_,_,h⟩:=bindS h
    rcases condS h with⟨_,h⟩|⟨_,h⟩
    . obtain rfl:=Option.some.inj h;exact z
    obtain⟨_,_,h⟩:=bindS h
    rcases condS h with⟨_,h⟩|⟨_,h⟩
    . obtain rfl:=Option.some.inj h;exact z
    obtain⟨y,hy,h⟩:=bindS h
    have h2:=ih.L2 _ _ _ _ _ _ fineAs0 hy
    rcases y with⟨a,to⟩|o
    . exact ih.L1 _ _ _ _ _ _ _ _ (h2.2 _ _ rfl) fineL0 h
    . obtain rfl:=Option.some.inj h
      exact h2.1 _ rfl
  . intro l x ags d out to c g fa fo h
    replace h:=(ref32_form_l1.eq_2 (n:=n) _ _ _ _ _ _ _).symm.trans h
    obtain⟨_,_,h⟩:=bindS h
    rcases condS h with⟨_,h⟩|⟨_,h⟩
    . obtain rfl:=Option.some.inj h;exact fineF fa fo
    obtain⟨y,hy,h⟩:=bindS h
    have fy:=ih.F _ _ _ _ _ hy
    rcases condS h with⟨_,h⟩|⟨_,h⟩
    . obtain rfl:=Option.some.inj h;exact fy
    obtain⟨l1,hl,h⟩:=bindS h
    obtain rfl:=Option.some.inj hl
    obtain⟨l2,hl2,h⟩:=bindS h
    exact ih.L1 _ _ _ _ _ _ _ _ fa (fineL_app hl2 fo fun f hf=>by obtain rfl:=List.mem_singleton.1 hf;exact fy) h
  . intro l x c ags to r fa h
    replace h:=(ref32_form_l2.eq_2 (n:=n) _ _ _ _ _).symm.trans h
    obtain⟨_,_,h⟩:=bindS h
    rcases condS h with⟨_,h⟩|⟨_,h⟩
    . obtain rfl:=Option.some.inj h
      exact⟨fun g e=>by cases e;exact fineF fa fineL0,fun _ _ e=>by cases e⟩
    obtain⟨_,_,h⟩:=bindS h
    rcases condS h with⟨_,h⟩|⟨_,h⟩
    . obtain rfl:=Option.some.inj h
      exact⟨fun g e=>(by cases e),fun _ _ e=>by cases e;exact fa⟩
    obtain⟨_,_,h⟩:=bindS h
    obtain⟨_,_,h⟩:=bindS h
    obtain⟨_,_,h⟩:=bindS h
    rcases condS h with⟨_,h⟩|⟨_,h⟩
    . obtain rfl:=Option.some.inj h
      exact⟨fun g e=>by cases e;exact z,fun _ _ e=>by cases e⟩
    rcases condS h with⟨_,h⟩|⟨_,h⟩
    . obtain rfl:=Option.some.inj h
      exact⟨fun g e=>by cases e;exact z,fun _ _ e=>by cases e⟩
    obtain⟨y,hy,h⟩:=bindS h
    rcases condS h with⟨_,h⟩|⟨_,h⟩
    . obtain rfl:=Option.some.inj h
      exact⟨fun g e=>by cases e;exact z,fun _ _ e=>by cases e⟩
    obtain⟨l1,hl,h⟩:=bindS h
    obtain rfl:=Option.some.inj hl
    obtain⟨l2,hl2,h⟩:=bindS h
    exact ih.L2 _ _ _ _ _ _ (fineAs_app hl2 fa fun a ha=>by obtain rfl:=List.mem_singleton.1 ha;exact finArg hy) h
end Go.Sp
