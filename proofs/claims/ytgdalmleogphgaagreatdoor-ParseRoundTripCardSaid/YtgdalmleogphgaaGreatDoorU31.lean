/-
  What can be printed is of operations that there are, and of tokens that can be read; comparing with what is read; how many parts there are. No program.
-/
import Derived.Test.YtgdalmleogphgaaGreatDoorU21
import Derived.Test.YtgdalmleogphgaaGreatDoorU25
import Derived.Test.YtgdalmleogphgaaGreatDoorU30
namespace Go.Sp
open Go
theorem Fk {s:List UInt8}(h:s∈Lx.long∨∃ c,s=[c]/\c∈Lx.short):EJ (tS ⟨⟨s⟩⟩):=Q4 h
theorem S7:EJ (tS ⟨#[40]⟩):=Fk (s:=[40]) (.inr ⟨40,rfl,by decide⟩)
theorem S6:EJ (tS ⟨#[41]⟩):=Fk (s:=[41]) (.inr ⟨41,rfl,by decide⟩)
theorem VM {b:Aq}(hb:b∈Ec):EJ (tS b.sign):=by
 have:b.sign.data.toList∈Lx.long∨∃ c,b.sign.data.toList=[c]/\c∈Lx.short:=by
  simp only [Ec,List.mem_cons,List.not_mem_nil,or_false] at hb
  rcases hb with rfl|rfl|rfl|rfl|rfl|rfl|rfl|rfl|rfl|rfl|rfl|rfl|rfl
  all_goals first
   |exact .inl (by decide)
   |exact .inr ⟨_,rfl,by decide⟩
 exact Q4 this
theorem Gi {need:Int}{p:Int×List Ab}{t:Ab}(h:t∈CR need p)(hp:∀ t∈p.2,EJ t):EJ t:=by
 unfold CR at h
 split at h
 . exact hp t h
 . rcases List.mem_cons.1 h with rfl|h
   . exact S7
   . rcases List.mem_append.1 h with h|h
     . exact hp t h
     . rw [List.mem_singleton.1 h];exact S6
theorem OL:∀ {l:List Aa} {t:Ab},t∈DU (D4 l)->(∀ x∈l,∀ t∈BB x,EJ t)->EJ t
 | [],t,h,_=>by cases h
 |x::l,t,h,hp=>by
  have h:t∈tS ⟨#[44]⟩::(CR 0 (lvl x.Op,BB x)++DU (D4 l)):=h
  rcases List.mem_cons.1 h with rfl|h
  . exact Fk (s:=[44]) (.inr ⟨44,rfl,by decide⟩)
  . rcases List.mem_append.1 h with h|h
    . exact Gi h (hp x (.head _))
    . exact OL h fun y hy=>hp y (.tail _ hy)
theorem I3:∀ {l:List Aa},(Gq l).all id=true->∀ x∈l,Es x=true
 | [],_,x,hx=>by cases hx
 |y::l,h,x,hx=>by
  have h:(Es y&&(Gq l).all id)=true:=h
  rw [Bool.and_eq_true] at h
  rcases List.mem_cons.1 hx with rfl|hx
  . exact h.1
  . exact I3 h.2 x hx
theorem LJ:∀ (N:Nat) (x:Aa),Kz x<=N->Es x=true->Wf x/\∀ t∈BB x,EJ t
 |0,x,h,_=>by have:=Gn x;omega
 |N+1,.mk op n s l p,h,ho=>by
  simp only [Kz] at h
  have hk:∀ x∈l,Es x=true->Wf x/\∀ t∈BB x,EJ t:=fun x hx=>LJ N x (by have:=Lw hx;omega)
  replace ho:IH op n s (Gq l)=true:=ho
  show Wf ⟨op,n,s,l,p⟩/\∀ t∈P8 op n s (D4 l),EJ t
  unfold IH at ho
  unfold P8
  by_cases h1:op=1
  . rw [if_pos h1] at ho ⊢
    subst h1
    exact⟨.num ..,fun t ht=>by rw [List.mem_singleton.1 ht];exact PC ho⟩
  rw [if_neg h1] at ho ⊢
  by_cases h2:op=2
  . rw [if_pos h2] at ho ⊢
    subst h2
    exact⟨.text ..,fun t ht=>by rw [List.mem_singleton.1 ht];exact Q3 ho⟩
  rw [if_neg h2] at ho ⊢
  by_cases h3:op=3
  . rw [if_pos h3] at ho ⊢
    subst h3
    exact⟨.name ..,fun t ht=>by rw [List.mem_singleton.1 ht];exact KU ho⟩
  rw [if_neg h3] at ho ⊢
  by_cases h4:op=4
  . rw [if_pos h4] at ho ⊢
    subst h4
    rw [Bool.and_eq_true] at ho
    have ha:=I3 ho.2
    refine⟨.call n s l p fun x hx=>(hk x hx (ha x hx)).1,fun t ht=>?_⟩
    rcases List.mem_cons.1 ht with rfl|ht
    . exact KU ho.1
    rcases List.mem_cons.1 ht with rfl|ht
    . exact S7
    rcases List.mem_append.1 ht with ht|ht
    . cases l with
      |nil=>cases ht
      |cons x l =>
       rw [I0] at ht
       rcases List.mem_append.1 ht with ht|ht
       . exact (hk x (.head _) (ha x (.head _))).2 t ht
       . exact OL ht fun y hy=>(hk y (.tail _ hy) (ha y (.tail _ hy))).2
    . rw [List.mem_singleton.1 ht];exact S6
  rw [if_neg h4] at ho ⊢
  have one:((Gq l).length == 1&&(Gq l).all id)=true->∃ x,l=[x]/\Es x=true:=by
   intro h
   rw [Bool.and_eq_true,beq_iff_eq,Gp] at h
   match l,h with
   | [x],h=>exact⟨x,rfl,I3 h.2 x (.head _)⟩
  by_cases h5:op=5
  . rw [if_pos h5] at ho ⊢
    subst h5
    obtain⟨x,rfl,hx⟩:=one ho
    obtain⟨w,tk⟩:=hk x (.head _) hx
    refine⟨.not n s x p w,fun t ht=>?_⟩
    rcases List.mem_cons.1 ht with rfl|ht
    . exact Fk (s:=[33]) (.inr ⟨33,rfl,by decide⟩)
    . exact Gi ht tk
  rw [if_neg h5] at ho ⊢
  by_cases h6:op=6
  . rw [if_pos h6] at ho ⊢
    subst h6
    obtain⟨x,rfl,hx⟩:=one ho
    obtain⟨w,tk⟩:=hk x (.head _) hx
    refine⟨.neg n s x p w,fun t ht=>?_⟩
    rcases List.mem_cons.1 ht with rfl|ht
    . exact Fk (s:=[45]) (.inr ⟨45,rfl,by decide⟩)
    . exact Gi ht tk
  rw [if_neg h6] at ho ⊢
  by_cases h20:op=20
  . rw [if_pos h20] at ho ⊢
    subst h20
    rw [Bool.and_eq_true,beq_iff_eq,Gp] at ho
    match l,ho,hk with
    | [x,y,z],ho,hk =>
     have ha:=I3 ho.2
     obtain⟨wx,tx⟩:=hk x (.head _) (ha x (.head _))
     obtain⟨wy,ty⟩:=hk y (.tail _ (.head _)) (ha y (.tail _ (.head _)))
     obtain⟨wz,tz⟩:=hk z (.tail _ (.tail _ (.head _))) (ha z (.tail _ (.tail _ (.head _))))
     refine⟨.ite n s x y z p wx wy wz,fun t ht=>?_⟩
     have ht:t∈CR 1 (lvl x.Op,BB x)++(tS ⟨#[63]⟩::(CR 0 (lvl y.Op,BB y)++(tS ⟨#[58]⟩::CR 0 (lvl z.Op,BB z)))):=ht
     rcases List.mem_append.1 ht with ht|ht
     . exact Gi ht tx
     rcases List.mem_cons.1 ht with rfl|ht
     . exact Fk (s:=[63]) (.inr ⟨63,rfl,by decide⟩)
     rcases List.mem_append.1 ht with ht|ht
     . exact Gi ht ty
     rcases List.mem_cons.1 ht with rfl|ht
     . exact Fk (s:=[58]) (.inr ⟨58,rfl,by decide⟩)
     . exact Gi ht tz
  rw [if_neg h20] at ho ⊢
  cases hb:Oq op Ec with
  |none=>rw [hb] at ho;cases ho
  |some b =>
   rw [hb] at ho
   simp only [Option.isSome_some,Bool.true_and] at ho
   rw [Bool.and_eq_true,beq_iff_eq,Gp] at ho
   obtain⟨hm,rfl⟩:=KZ hb
   match l,ho,hk with
   | [x,y],ho,hk =>
    have ha:=I3 ho.2
    obtain⟨wx,tx⟩:=hk x (.head _) (ha x (.head _))
    obtain⟨wy,ty⟩:=hk y (.tail _ (.head _)) (ha y (.tail _ (.head _)))
    refine⟨.bin b hm n s x y p wx wy,fun t ht=>?_⟩
    have ht:t∈CR (lf b.level) (lvl x.Op,BB x)++(tS b.sign::CR (b.level+1) (lvl y.Op,BB y)):=ht
    rcases List.mem_append.1 ht with ht|ht
    . exact Gi ht tx
    rcases List.mem_cons.1 ht with rfl|ht
    . exact VM hm
    . exact Gi ht ty
theorem Pd {a:As}(h:G8 a=true):Vd a/\∀ t∈pA a,EJ t:=by
 unfold G8 at h
 unfold pA
 by_cases q1:a.Kind=1
 . rw [if_pos q1] at h ⊢
   exact⟨⟨by omega,fun h=>by omega,fun h=>by omega⟩,fun t ht=>by rw [List.mem_singleton.1 ht];exact KU h⟩
 rw [if_neg q1] at h ⊢
 by_cases q2:a.Kind=2
 . rw [if_pos q2] at h ⊢
   by_cases qn:a.N<0
   . rw [if_pos qn] at h ⊢
     simp only [Bool.and_eq_true,Bool.not_eq_true',decide_eq_false_iff_not] at h
     refine⟨⟨by omega,fun _=>by omega,fun h=>by omega⟩,fun t ht=>?_⟩
     rcases List.mem_cons.1 ht with rfl|ht
     . exact Fk (s:=[45]) (.inr ⟨45,rfl,by decide⟩)
     . rw [List.mem_singleton.1 ht];exact PC h.1
   . rw [if_neg qn] at h ⊢
     refine⟨⟨by omega,fun _=>?_,fun h=>by omega⟩,fun t ht=>by rw [List.mem_singleton.1 ht];exact PC h⟩
     unfold EC at h
     simp only [decide_eq_true_eq] at h
     omega
 rw [if_neg q2] at h ⊢
 by_cases q3:a.Kind=3
 . rw [if_pos q3] at h ⊢
   exact⟨⟨by omega,fun h=>by omega,fun h=>by omega⟩,fun t ht=>by rw [List.mem_singleton.1 ht];exact Q3 h⟩
 rw [if_neg q3] at h ⊢
 by_cases q4:a.Kind=4
 . rw [if_pos q4] at h ⊢
   exact⟨⟨by omega,fun h=>by omega,fun h=>by omega⟩,fun t ht=>by rw [List.mem_singleton.1 ht];exact Fk (s:=[45,62]) (.inl (by decide))⟩
 rw [if_neg q4] at h ⊢
 by_cases q5:a.Kind=5
 . rw [if_pos q5] at h ⊢
   obtain⟨w,tk⟩:=LJ _ a.E (Nat.le_refl _) h
   refine⟨⟨by omega,fun h=>by omega,fun _=>w⟩,fun t ht=>?_⟩
   rcases List.mem_cons.1 ht with rfl|ht
   . exact S7
   rcases List.mem_append.1 ht with ht|ht
   . exact tk t ht
   . rw [List.mem_singleton.1 ht];exact S6
 . rw [if_neg q5] at h;cases h
theorem QI:∀ {l:List As} {t:Ab},t∈Ea l->(∀ a∈l,∀ t∈pA a,EJ t)->EJ t
 | [],t,h,_=>by cases h
 |a::l,t,h,hp=>by
  rcases List.mem_append.1 (show t∈pA a++Ea l from h) with h|h
  . exact hp a (.head _) t h
  . exact QI h fun a ha=>hp a (.tail _ ha)
mutual
theorem Te:∀ f:Af,okF f=true->Qx f/\∀ t∈pF f,EJ t
 |.mk w l b p,h=>by
  have h:(B8 w&&(l.all G8&&CS b))=true:=h
  rw [Bool.and_eq_true,Bool.and_eq_true,List.all_eq_true] at h
  obtain⟨h1,h2,h3⟩:=h
  have hb:=I4 b h3
  refine⟨.mk w l b p (fun a ha=>(Pd (h2 a ha)).1) hb.1,fun t ht=>?_⟩
  have ht:t∈⟨1,0,w,0⟩::(Ea l++(if b.isEmpty then [tS ⟨#[59]⟩] else tS ⟨#[123]⟩::(Dj b++[tS ⟨#[125]⟩]))):=ht
  rcases List.mem_cons.1 ht with rfl|ht
  . exact KU h1
  rcases List.mem_append.1 ht with ht|ht
  . exact QI ht fun a ha=>(Pd (h2 a ha)).2
  split at ht
  . rw [List.mem_singleton.1 ht];exact Fk (s:=[59]) (.inr ⟨59,rfl,by decide⟩)
  rcases List.mem_cons.1 ht with rfl|ht
  . exact Fk (s:=[123]) (.inr ⟨123,rfl,by decide⟩)
  rcases List.mem_append.1 ht with ht|ht
  . exact hb.2 t ht
  . rw [List.mem_singleton.1 ht];exact Fk (s:=[125]) (.inr ⟨125,rfl,by decide⟩)
theorem I4:∀ l:List Af,CS l=true->(∀ f∈l,Qx f)/\∀ t∈Dj l,EJ t
 | [],_=>⟨fun f h=>(by cases h),fun t h=>(by cases h)⟩
 |f::l,h=>by
  have h:(okF f&&CS l)=true:=h
  rw [Bool.and_eq_true] at h
  obtain⟨w1,t1⟩:=Te f h.1
  obtain⟨w2,t2⟩:=I4 l h.2
  refine⟨fun g hg=>?_,fun t ht=>?_⟩
  . rcases List.mem_cons.1 hg with rfl|hg
    . exact w1
    . exact w2 g hg
  . rcases List.mem_append.1 (show t∈pF f++Dj l from ht) with ht|ht
    . exact t1 t ht
    . exact t2 t ht
end
theorem Tk:∀ l:List Aa,(nL l).length=l.length
 | []=>rfl
 |x::l=>by show (nL l).length+1=_;rw [Tk l];rfl
theorem V3:∀ {l l':List Aa},IL l'=nL l->∀ {j:Nat} (h1:j<l'.length) (h2:j<l.length),DY l'[j]=nE l[j]
 | [],l',h,j,h1,h2=>by simp at h2
 |x::l,[],h,j,h1,h2=>by simp at h1
 |x::l,y::l',h,0,h1,h2=>by
  have h:DY y::IL l'=nE x::nL l:=h
  exact (List.cons.inj h).1
 |x::l,y::l',h,j+1,h1,h2=>by
  have h:DY y::IL l'=nE x::nL l:=h
  exact V3 (List.cons.inj h).2 (by simpa using h1) (by simpa using h2)
theorem SL {x:Aa}(h:C8 x):∀ y,DY y=nE x->Ev (fun n=>Bp n x y) true:=by
 induction h with
 |mk x hl _ ih =>
  intro y e
  obtain⟨op,v,s,l,p⟩:=x
  obtain⟨op',v',s',l',p'⟩:=y
  simp only at hl ih
  have hop:op'=op:=by
   simp only [DY,nE] at e
   split at e
   . rename_i q;rw [q];exact congrArg Aa.Op e
   split at e
   . rename_i q;rw [q];exact congrArg Aa.Op e
   split at e
   . rename_i q;rw [q];exact congrArg Aa.Op e
   split at e
   . rename_i q;rw [q];exact congrArg Aa.Op e
   . exact congrArg Aa.Op e
  subst hop
  refine Ev.step (fun n=>Bp.eq_2 (n:=n) _ _) ?_
  simp only [bne_self_eq_false,cond_false]
  simp only [DY,nE] at e
  by_cases h1:op'=1
  . rw [if_pos h1] at e
    simp only [show (op' == 1)=true by simpa using h1,cond_true]
    have:v'=v:=congrArg Aa.N e
    rw [this,beq_self_eq_true];exact Ev.pure
  rw [if_neg h1] at e
  simp only [show (op' == 1)=false by simpa using h1,cond_false]
  by_cases h2:op'=2
  . rw [if_pos h2] at e
    have:s'=s:=congrArg Aa.S e
    simp only [show (op' == 2)=true by simpa using h2,cond_true,Option.bind_some,this,decide_true]
    exact Ev.pure
  rw [if_neg h2] at e
  simp only [show (op' == 2)=false by simpa using h2,cond_false]
  by_cases h3:op'=3
  . rw [if_pos h3] at e
    have:s'=s:=congrArg Aa.S e
    simp only [show (op' == 3)=true by simpa using h3,cond_true,Option.bind_some,this,decide_true]
    exact Ev.pure
  rw [if_neg h3] at e
  simp only [show (op' == 3)=false by simpa using h3,cond_false,Option.bind_some]
  have hk:IL l'=nL l:=by
   split at e
   . exact congrArg Aa.Kids e
   . exact congrArg Aa.Kids e
  have hlen:l.length=l'.length:=by rw [<- Tk l,<- hk,Q7]
  have all:Ev (fun n=>Bf n l l') true:=by
   have loop:∀ (r j:Nat),l.length-j<=r->j<=l.length->Ev (fun n=>Bm n l l' (j:Int)) (.inl ()):=by
    intro r
    induction r with
    |zero =>
     intro j h1 h2
     refine Ev.step (fun n=>Bm.eq_2 (n:=n) _ _ _) (Ev.of fun n=>?_)
     rw [decide_eq_false (by omega)];rfl
    |succ r ihr =>
     intro j h1 h2
     by_cases h3:j<l.length
     . refine Ev.step (fun n=>Bm.eq_2 (n:=n) _ _ _) ?_
       simp only [decide_eq_true (show (j:Int)<(l.length:Int) by omega),cond_true,ED h3,ED (show j<l'.length by omega),Option.bind_some,Sv h3 (show l.length<=140737488355328 by omega)]
       refine Ev.bind (ih _ (List.getElem_mem h3) _ (V3 hk (by omega) h3)) ?_
       simp only [Bool.not_true,cond_false];exact ihr (j+1) (by omega) (by omega)
     . refine Ev.step (fun n=>Bm.eq_2 (n:=n) _ _ _) (Ev.of fun n=>?_)
       rw [decide_eq_false (by omega)];rfl
   refine Ev.step (fun n=>Bf.eq_2 (n:=n) _ _) ?_
   simp only [hlen,bne_self_eq_false,cond_false]
   exact Ev.bind (loop l.length 0 (by omega) (by omega)) Ev.pure
  by_cases h4:op'=4
  . rw [if_pos h4] at e
    have:s'=s:=congrArg Aa.S e
    simp only [show (op' == 4)=true by simpa using h4,cond_true,this,decide_true,Bool.not_true,cond_false]
    exact Ev.bind all Ev.pure
  . simp only [show (op' == 4)=false by simpa using h4,cond_false]
    exact Ev.bind all Ev.pure
theorem Mf:∀ (N:Nat) (e:Aa),Kz e<=N->Kz e<=1000000->C8 e
 |0,e,h,_=>by have:=Gn e;omega
 |N+1,.mk op v s l p,h,hz=>by
  simp only [Kz] at h hz
  have hl:=NG l
  exact .mk _ (by show l.length<=_;omega) fun x (hx:x∈l)=>Mf N x (by have:=Lw hx;omega) (by have:=Lw hx;omega)
theorem Np {e:Aa}(h:C8 e):Es e=true->Qz e:=by
 induction h with
 |mk e hl _ ih =>
  intro ho
  refine .mk e (by omega) (.inl ho) fun h1 h2 h3 x hx=>ih x hx ?_
  obtain⟨op,v,s,l,p⟩:=e
  have ho:IH op v s (Gq l)=true:=ho
  have ha:(Gq l).all id=true:=by
   unfold IH at ho
   rw [if_neg h1,if_neg h2,if_neg h3] at ho
   split at ho
   . rw [Bool.and_eq_true] at ho;exact ho.2
   split at ho
   . rw [Bool.and_eq_true] at ho;exact ho.2
   split at ho
   . rw [Bool.and_eq_true] at ho;exact ho.2
   split at ho
   . rw [Bool.and_eq_true] at ho;exact ho.2
   . rw [Bool.and_eq_true,Bool.and_eq_true] at ho;exact ho.2.2
  exact I3 ha x hx
end Go.Sp
