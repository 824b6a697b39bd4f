/-
  An operator between two expressions in parentheses. No program. A call of two expressions. No program. A form with one expression in parentheses. No program. ParseNests: what is computed is true. No program. What ParseJoins' shifted computes: forms with greater offsets. No program. Two sources with a line feed between are read as one after the other. No program. Chapter 32 as plain functions, third part: what ParseJoins computes; no program. (Printed by lift.py.) ParseJoins: what is computed is true. No program.
-/
import Derived.Test.YtgdalmleogphgaaGreatDoorU14
import Derived.Test.YtgdalmleogphgaaGreatDoorU15
import Derived.Test.YtgdalmleogphgaaGreatDoorU17
import Derived.Test.YtgdalmleogphgaaGreatDoorU25
namespace Go.Sp
open Go
end Go.Sp
namespace Go.Sp
open Go
end Go.Sp
namespace Go.Sp
open Go
end Go.Sp
namespace Go.Sp
open Go
theorem gcat_le {x y:ByteArray}{m n:Nat}(hx:x.size<=m)(hy:y.size<=n)(h:m+n<=1000):∃ z,gcat x y=some z/\z.size<=m+n/\z.data.toList=x.data.toList++y.data.toList:=by
 refine⟨x++y,by unfold gcat;rw [if_pos (by omega)],by rw [ByteArray.size_append];omega,?_⟩
 rw [ByteArray.data_append,Array.toList_append]
theorem last5:∀ {l:List Lx.Tok},Shape l->∀ (j:Nat) (t:Lx.Tok),l[j]?=some t->t.kind=5->j+1=l.length
 |_,.one n,j,t,h,_=>by
  cases j with
  |zero=>rfl
  |succ j=>cases h
 |_,.cons u l h5 _ _ h',j,t,h,k5=>by
  cases j with
  |zero=>cases h;exact absurd k5 h5
  |succ j =>
   have:=last5 h' j t h k5
   rw [List.length_cons];omega
end Go.Sp
namespace Go.Sp
open Go
def qd (d p:Int):Int:=IntKind.i64.wrap (p+d)
theorem shiftE_ev {d:Int}{e:api_Expr}(h:FineE e):Ev (fun n=>law32_shiftedExpr n e d) (shE (qd d) e):=by
 induction h with
 |mk e hl _ ih =>
  by_cases h0:e.Op=0
  . refine Ev.step (fun n=>law32_shiftedExpr.eq_2 (n:=n) _ _) (Ev.of fun n=>?_)
    rw [show (e.Op == 0)=true by simpa using h0]
    cases e
    simp only [shE]
    rw [if_pos h0];rfl
  . have loop:∀ (r j:Nat),e.Kids.length-j<=r->j<=e.Kids.length->Ev (fun n=>law32_shiftedExpr_l1 n e d (shL (qd d) (e.Kids.take j)) (j:Int)) (shL (qd d) e.Kids):=by
     intro r
     induction r with
     |zero =>
      intro j h1 h2
      refine Ev.step (fun n=>law32_shiftedExpr_l1.eq_2 (n:=n) _ _ _ _) (Ev.of fun n=>?_)
      rw [decide_eq_false (by omega),List.take_of_length_le (by omega)];rfl
     |succ r ihr =>
      intro j h1 h2
      by_cases h3:j<e.Kids.length
      . refine Ev.step (fun n=>law32_shiftedExpr_l1.eq_2 (n:=n) _ _ _ _) ?_
        simp only [decide_eq_true (show (j:Int)<(e.Kids.length:Int) by omega),cond_true,gi_lt h3,Option.bind_some,wrapJ h3 (show e.Kids.length<=140737488355328 by omega)]
        refine Ev.bind (ih _ (List.getElem_mem h3)) ?_
        have e1:gapp 65 (shL (qd d) (e.Kids.take j)) [shE (qd d) e.Kids[j]]=some (shL (qd d) (e.Kids.take (j+1))):=by
         unfold gapp
         rw [if_pos (by simp only [shL_len,List.length_take,List.length_cons,List.length_nil];omega),List.take_succ_eq_append_getElem h3,shL_app];rfl
        simp only [e1,Option.bind_some]
        exact ihr (j+1) (by omega) (by omega)
      . refine Ev.step (fun n=>law32_shiftedExpr_l1.eq_2 (n:=n) _ _ _ _) (Ev.of fun n=>?_)
        rw [decide_eq_false (by omega),List.take_of_length_le (by omega)];rfl
    refine Ev.step (fun n=>law32_shiftedExpr.eq_2 (n:=n) _ _) ?_
    simp only [show (e.Op == 0)=false by simpa using h0,cond_false]
    refine Ev.bind (loop e.Kids.length 0 (by omega) (by omega)) ?_
    have e2:shE (qd d) e=⟨e.Op,e.N,e.S,shL (qd d) e.Kids,qd d e.At⟩:=by
     cases e;exact shE_mk h0
    rw [e2];exact Ev.pure
theorem shiftF_ev {d:Int}{l:List api_Form}(hl:l.length<=1927910799388)(hf:∀ x∈l,FineF x/\Ev (fun n=>law32_shifted n x.Body d) (shFs (qd d) x.Body)):Ev (fun n=>law32_shifted n l d) (shFs (qd d) l):=by
 have loop2:∀ (f:api_Form),FineF f->∀ (r j:Nat),f.Args.length-j<=r->j<=f.Args.length->Ev (fun n=>law32_shifted_l2 n f d (j:Int) ((f.Args.take j).map (shA (qd d)))) (f.Args.map (shA (qd d))):=by
  intro f hf r
  cases hf with
  |mk _ ha hx hb h =>
  induction r with
  |zero =>
   intro j h1 h2
   refine Ev.step (fun n=>law32_shifted_l2.eq_2 (n:=n) _ _ _ _) (Ev.of fun n=>?_)
   rw [decide_eq_false (by omega),List.take_of_length_le (by omega)];rfl
  |succ r ihr =>
   intro j h1 h2
   by_cases h3:j<f.Args.length
   . refine Ev.step (fun n=>law32_shifted_l2.eq_2 (n:=n) _ _ _ _) ?_
     simp only [decide_eq_true (show (j:Int)<(f.Args.length:Int) by omega),cond_true,gi_lt h3,Option.bind_some,wrapJ h3 (show f.Args.length<=140737488355328 by omega)]
     refine Ev.bind (shiftE_ev (hx _ (List.getElem_mem h3))) ?_
     have e1:gapp 105 ((f.Args.take j).map (shA (qd d))) [shA (qd d) f.Args[j]]=some ((f.Args.take (j+1)).map (shA (qd d))):=by
      unfold gapp
      rw [if_pos (by simp only [List.length_map,List.length_take,List.length_cons,List.length_nil];omega),List.take_succ_eq_append_getElem h3,List.map_append];rfl
     have e1':gapp 105 ((f.Args.take j).map (shA (qd d))) [api_Arg.mk f.Args[j].Kind f.Args[j].N f.Args[j].S (shE (qd d) f.Args[j].E) (IntKind.i64.wrap (f.Args[j].At+d))]=_:=e1
     simp only [e1',Option.bind_some]
     exact ihr (j+1) (by omega) (by omega)
   . refine Ev.step (fun n=>law32_shifted_l2.eq_2 (n:=n) _ _ _ _) (Ev.of fun n=>?_)
     rw [decide_eq_false (by omega),List.take_of_length_le (by omega)];rfl
 have loop1:∀ (r j:Nat),l.length-j<=r->j<=l.length->Ev (fun n=>law32_shifted_l1 n l d (shFs (qd d) (l.take j)) (j:Int)) (shFs (qd d) l):=by
  intro r
  induction r with
  |zero =>
   intro j h1 h2
   refine Ev.step (fun n=>law32_shifted_l1.eq_2 (n:=n) _ _ _ _) (Ev.of fun n=>?_)
   rw [decide_eq_false (by omega),List.take_of_length_le (by omega)];rfl
  |succ r ihr =>
   intro j h1 h2
   by_cases h3:j<l.length
   . refine Ev.step (fun n=>law32_shifted_l1.eq_2 (n:=n) _ _ _ _) ?_
     simp only [decide_eq_true (show (j:Int)<(l.length:Int) by omega),cond_true,gi_lt h3,Option.bind_some,wrapJ h3 (show l.length<=140737488355328 by omega)]
     obtain⟨hf1,hf2⟩:=hf _ (List.getElem_mem h3)
     refine Ev.bind (loop2 _ hf1 _ 0 (Nat.le_refl _) (by omega)) (Ev.bind hf2 ?_)
     have e2:shF (qd d) l[j]=⟨l[j].Word,l[j].Args.map (shA (qd d)),shFs (qd d) l[j].Body,IntKind.i64.wrap (l[j].At+d)⟩:=by
      generalize l[j]=f
      cases f;simp only [shF];rfl
     have e1:gapp 73 (shFs (qd d) (l.take j)) [⟨l[j].Word,l[j].Args.map (shA (qd d)),shFs (qd d) l[j].Body,IntKind.i64.wrap (l[j].At+d)⟩]=some (shFs (qd d) (l.take (j+1))):=by
      rw [<- e2]
      unfold gapp
      rw [if_pos (by simp only [shFs_len,List.length_take,List.length_cons,List.length_nil];omega),List.take_succ_eq_append_getElem h3,shFs_app];rfl
     simp only [e1,Option.bind_some]
     exact ihr (j+1) (by omega) (by omega)
   . refine Ev.step (fun n=>law32_shifted_l1.eq_2 (n:=n) _ _ _ _) (Ev.of fun n=>?_)
     rw [decide_eq_false (by omega),List.take_of_length_le (by omega)];rfl
 refine Ev.step (fun n=>law32_shifted.eq_2 (n:=n) _ _) ?_
 exact Ev.bind (loop1 l.length 0 (by omega) (by omega)) Ev.pure
theorem shiftB_ev {d:Int}{f:api_Form}(h:FineF f):Ev (fun n=>law32_shifted n f.Body d) (shFs (qd d) f.Body):=by
 induction h with
 |mk f ha hx hb h ih=>exact shiftF_ev hb fun x hx=>⟨h x hx,ih x hx⟩
theorem shift_ev {d:Int}{l:List api_Form}(h:FineL l):Ev (fun n=>law32_shifted n l d) (shFs (qd d) l):=shiftF_ev h.1 fun x hx=>⟨h.2 x hx,shiftB_ev (h.2 x hx)⟩
end Go.Sp
namespace Go.Sp
open Go
theorem join_tokens {a b:List UInt8}{l0:List Lx.Tok}(ha:Lx.tokens a=.ok (l0++[⟨5,a.length,[],0⟩])) :
 (∀ lb,Lx.tokens b=.ok lb->Lx.tokens (a++10::b)=.ok (l0++lb.map (Lx.shift (a.length+1))))/\∀ p e,Lx.tokens b=.error (p,e)->Lx.tokens (a++10::b)=.error (p+(a.length+1),e):=by
 have hs:=Lx.skip_len false a
 have hN:(a++10::b).length=a.length+1+b.length:=by simp only [List.length_append,List.length_cons];omega
 obtain⟨l2,e2,h2,h3⟩:=Lx.join_good (N:=(a++10::b).length) (b:=b) (Lx.tokens_good ha) (Lx.skip_idem false a) (by omega) hN
 obtain⟨rfl,_⟩:=List.append_inj' e2 rfl
 have hd:b.length+(a.length+1)=(a++10::b).length:=by omega
 constructor
 . intro lb hb
   have g:=(Lx.tokens_good hb).shift (d:=a.length+1) (Lx.skip_len false b)
   rw [hd] at g
   have g2:=h2 _ g
   rw [<- Lx.skip_feed] at g2
   cases e:Lx.tokens (a++10::b) with
   |ok ts=>rw [(Lx.tokens_good e).unique g2]
   |error x=>obtain⟨p,q⟩:=x;exact (g2.notBad (Lx.tokens_bad e)).elim
 . intro p q hb
   have g:=(Lx.tokens_bad hb).shift (d:=a.length+1) (Lx.skip_len false b)
   rw [hd] at g
   have g2:=h3 _ _ g
   rw [<- Lx.skip_feed] at g2
   cases e:Lx.tokens (a++10::b) with
   |ok ts=>exact ((Lx.tokens_good e).notBad g2).elim
   |error x =>
    obtain⟨p',q'⟩:=x
    obtain⟨rfl,rfl⟩:=(Lx.tokens_bad e).unique g2
    rfl
theorem forms_ok {src:ByteArray}(hs:src.size<=1000){ts:List Lx.Tok}(h:Lx.tokens src.data.toList=.ok ts)(n:Nat):ref32_Forms n src=(ref32_Forms_l1 n ⟨ts.map tkT,⟨0,0⟩⟩ [] 0 0).bind fun y=>match y with
 |.inl out=>some (ref32_Read.mk out (api_Expr.mk 0 0 ⟨#[]⟩ [] 0) (api_Problem.mk 0 0))
 |.inr o=>some o:=by
 have hT:refTokens src=some ⟨ts.map tkT,⟨0,0⟩⟩:=by
  unfold refTokens lexPlain
  rw [if_neg (by omega),h]
 unfold ref32_Forms
 rw [hT];rfl
theorem forms_bad {src:ByteArray}(hs:src.size<=1000){p e:Nat}(h:Lx.tokens src.data.toList=.error (p,e))(n:Nat):ref32_Forms n src=some ⟨[],⟨0,0,⟨#[]⟩,[],0⟩,⟨(p:Int),(e:Int)⟩⟩:=by
 have hT:refTokens src=some ⟨[],⟨(p:Int),(e:Int)⟩⟩:=by
  unfold refTokens lexPlain
  rw [if_neg (by omega),h]
 have he:(e:Int)≠0:=by have:=(toks_shape _ _).2 _ _ h;omega
 unfold ref32_Forms
 rw [hT,Option.bind_some,show ((e:Int) != 0)=true by simpa using he];rfl
theorem inr_E {t:ref31_Read}:∀ (n:Nat) (out:List api_Form) (k c:Int) (o:ref32_Read),ref32_Forms_l1 n t out k c=some (.inr o)->o.P.E≠0/\o.L=[]/\∃ x k',gi t.L k'=some x/\o.P.At=x.At
 |0,out,k,c,o,h=>by cases (ref32_Forms_l1.eq_1 _ _ _ _).symm.trans h
 |n+1,out,k,c,o,h=>by
  replace h:=(ref32_Forms_l1.eq_2 (n:=n) _ _ _ _).symm.trans h
  obtain⟨x,hx,h⟩:=bindS h
  rcases condS h with⟨q5,h⟩|⟨q5,h⟩
  . obtain⟨p,hp,h⟩:=bindS h
    rcases condS h with⟨qe,h⟩|⟨qe,h⟩
    . obtain⟨x2,hx2,h⟩:=bindS h
      cases Option.some.inj h
      exact⟨by simpa using qe,rfl,x2,_,hx2,rfl⟩
    . obtain⟨l1,_,h⟩:=bindS h
      obtain⟨l2,_,h⟩:=bindS h
      exact inr_E n _ _ _ o h
  . cases Option.some.inj h
theorem good_at {n:Nat}{r:List UInt8}{l:List Lx.Tok}(h:Lx.Good n r l):∀ t∈l,t.at_<=n:=by
 induction h with
 |fin=>intro t ht;obtain rfl:=List.mem_singleton.1 ht;exact Nat.le_refl _
 |cons _ _ ih =>
  intro t ht
  rcases List.mem_cons.1 ht with rfl|ht
  . exact Nat.sub_le _ _
  . exact ih t ht
theorem bad_at {n p e:Nat}{r:List UInt8}(h:Lx.Bad n r p e):p<=n:=by
 induction h with
 |here _ _=>exact Nat.sub_le _ _
 |later _ _ ih=>exact ih
theorem qd_id {d p:Int}(h:0<=p+d)(h2:p+d<=5000):qd d p=p+d:=wrap_id (by omega) (by omega)
theorem tk_shift (d:Nat)(hd:d<=2000)(l:List Lx.Tok)(hl:∀ t∈l,t.at_<=1000):(l.map (Lx.shift d)).map tkT=(l.map tkT).map (shT (qd (d:Int))):=by
 rw [List.map_map,List.map_map]
 refine List.map_congr_left fun t ht=>?_
 have:=hl t ht
 show api_Token.mk _ ((t.at_+d:Nat):Int) _ _=api_Token.mk _ (qd (d:Int) (t.at_:Int)) _ _
 rw [Int.natCast_add,qd_id (by omega) (by omega)];rfl
theorem forms_at {src:ByteArray}(hs:src.size<=1000){l:List api_Form}{x:api_Expr}{p:api_Problem}(h:Ev (fun n=>ref32_Forms n src) ⟨l,x,p⟩)(he:p.E≠0):0<=p.At/\p.At<=(src.size:Int)/\l=[]:=by
 have hl:src.data.toList.length=src.size:=rfl
 cases ts:Lx.tokens src.data.toList with
 |error y =>
  obtain⟨q,e⟩:=y
  have h:=h.uniq (Ev.of (forms_bad (by omega) ts))
  have h1:l=[]:=congrArg ref32_Read.L h
  have h2:p=⟨(q:Int),(e:Int)⟩:=congrArg ref32_Read.P h
  have:=bad_at (Lx.tokens_bad ts)
  subst h2
  exact⟨by show (0:Int)<=(q:Int);omega,by show (q:Int)<=_;omega,h1⟩
 |ok tk =>
  obtain⟨n,h⟩:=h.get
  rw [forms_ok (by omega) ts] at h
  obtain⟨y,hy,h⟩:=bindS h
  cases y with
  |inl o =>
   have:(0:Int)=p.E:=congrArg (fun r:ref32_Read=>r.P.E) (Option.some.inj h)
   exact absurd this.symm he
  |inr o =>
   obtain⟨_,h2,x2,k2,h3,h4⟩:=inr_E _ _ _ _ _ hy
   have h:=Option.some.inj h
   have e1:o.L=l:=congrArg ref32_Read.L h
   have e2:o.P=p:=congrArg ref32_Read.P h
   rw [<- e1,<- e2,h4]
   have hm:=mem_of_gi h3
   obtain⟨t,ht,rfl⟩:=List.mem_map.1 hm
   have:=good_at (Lx.tokens_good ts) t ht
   exact⟨by show (0:Int)<=(t.at_:Int);omega,by show (t.at_:Int)<=_;omega,h2⟩
theorem kind5 {n:Nat}{l0:List Lx.Tok}{l:List UInt8}(h:Lx.tokens l=.ok (l0++[⟨5,n,[],0⟩])):∀ k u,gi ((l0++[(⟨5,n,[],0⟩:Lx.Tok)]).map tkT) k=some u->(u.Kind=5↔k=(l0.length:Int)):=by
 intro k u hu
 constructor
 . intro h5
   obtain⟨j,hj,h2,_⟩:=gi_nn hu
   rw [List.getElem?_map] at h2
   obtain⟨t,ht,rfl⟩:=Option.map_eq_some_iff.1 h2
   have:=last5 ((toks_shape _ _).1 _ h).1 j t ht (by have:(t.kind:Int)=5:=h5;omega)
   rw [List.length_append] at this
   simp only [List.length_cons,List.length_nil] at this
   rw [hj];omega
 . intro hk
   subst hk
   rw [gi_nat,List.getElem?_map,List.getElem?_append_right (Nat.le_refl _),Nat.sub_self] at hu
   rw [<- Option.some.inj hu];rfl
theorem joins_ref {a b J:ByteArray}(hJ:J.data.toList=a.data.toList++10::b.data.toList)(ha:a.size<=300)(hb:b.size<=300){fa:List api_Form}{xa:api_Expr}(hA:Ev (fun n=>ref32_Forms n a) ⟨fa,xa,⟨0,0⟩⟩)
 {fb:List api_Form} {xb:api_Expr} {pb:api_Problem} (hB:Ev (fun n=>ref32_Forms n b) ⟨fb,xb,pb⟩) :
 ∃ x,Ev (fun n=>ref32_Forms n J) (if pb.E=0 then ⟨fa++shFs (qd ((a.size:Int)+1)) fb,x,⟨0,0⟩⟩ else ⟨[],x,⟨qd ((a.size:Int)+1) pb.At,pb.E⟩⟩):=by
 have la:a.data.toList.length=a.size:=rfl
 have lb:b.data.toList.length=b.size:=rfl
 have lJ:J.size=a.size+(b.size+1):=by
  have:J.data.toList.length=J.size:=rfl
  rw [<- this,hJ,List.length_append,List.length_cons];rfl
 cases ta:Lx.tokens a.data.toList with
 |error x =>
  obtain⟨p,e⟩:=x
  have h:=hA.uniq (Ev.of (forms_bad (by omega) ta))
  have he:e≠0:=(toks_shape _ _).2 _ _ ta
  have:(0:Int)=(e:Int):=congrArg (fun r:ref32_Read=>r.P.E) h
  omega
 |ok ts =>
  obtain⟨l0,rfl,_⟩:=rd_of ta
  have hJt:=join_tokens (b:=b.data.toList) ta
  rw [<- hJ] at hJt
  cases tb:Lx.tokens b.data.toList with
  |error x =>
   obtain⟨p,e⟩:=x
   have h:=hB.uniq (Ev.of (forms_bad (by omega) tb))
   have he:e≠0:=(toks_shape _ _).2 _ _ tb
   have hp:pb=⟨(p:Int),(e:Int)⟩:=congrArg ref32_Read.P h
   subst hp
   refine⟨⟨0,0,⟨#[]⟩,[],0⟩,Ev.of fun n=>(forms_bad (by omega) (hJt.2 _ _ tb) n).trans ?_⟩
   rw [if_neg (show (e:Int)≠0 by omega),la]
   show some (ref32_Read.mk [] _ ⟨((p+(a.size+1):Nat):Int),(e:Int)⟩)=some (ref32_Read.mk [] _ ⟨qd ((a.size:Int)+1) (p:Int),(e:Int)⟩)
   have:=bad_at (Lx.tokens_bad tb)
   rw [qd_id (by omega) (by omega),show ((p+(a.size+1):Nat):Int)=(p:Int)+((a.size:Int)+1) by omega]
  |ok lb' =>
   have tJ:=hJt.1 _ tb
   have sa:=(toks_shape _ _).1 _ ta
   have sb:=(toks_shape _ _).1 _ tb
   have na:l0.length<=300:=by have:=sa.2;rw [List.length_append] at this;simp only [List.length_cons,List.length_nil] at this;omega
   have nb:lb'.length<=301:=by have:=sb.2;omega
   have hM:(l0++lb'.map (Lx.shift (a.data.toList.length+1))).map tkT=l0.map tkT++(lb'.map tkT).map (shT (qd ((a.size:Int)+1))):=by
    rw [List.map_append,tk_shift _ (by omega) _ (fun t ht=>by have:=good_at (Lx.tokens_good tb) t ht;omega)];rfl
   generalize hMM:(l0++lb'.map (Lx.shift (a.data.toList.length+1))).map tkT=M at hM
   have A1:Ag ((l0++[(⟨5,a.data.toList.length,[],0⟩:Lx.Tok)]).map tkT) M 0 (l0.length:Int) id:=by
    refine⟨by omega,by simp;omega,fun k t hk h=>?_⟩
    obtain⟨j,rfl,hj,_⟩:=gi_nn h
    have hj2:j<(l0.map tkT).length:=by rw [List.length_map];omega
    rw [List.map_append,List.getElem?_append_left hj2] at hj
    rw [Int.add_zero,hM,gi_nat,List.getElem?_append_left hj2,hj];rfl
   have A2:Ag (lb'.map tkT) M (l0.length:Int) ((lb'.map tkT).length:Int) (qd ((a.size:Int)+1)):=by
    refine⟨by omega,by simp;omega,fun k t hk h=>?_⟩
    obtain⟨j,rfl,hj,_⟩:=gi_nn h
    rw [show (j:Int)+(l0.length:Int)=(((l0.map tkT).length+j:Nat):Int) by rw [List.length_map];omega,hM,gi_nat,List.getElem?_append_right (by omega),Nat.add_sub_cancel_left,List.getElem?_map,hj];rfl
   obtain⟨NA,hA⟩:=hA
   obtain⟨NB,hB⟩:=hB
   have runA:∀ n,NA<=n->ref32_Forms_l1 n ⟨(l0++[(⟨5,a.data.toList.length,[],0⟩:Lx.Tok)]).map tkT,⟨0,0⟩⟩ [] 0 0=some (.inl fa):=by
    intro n hn
    have h:ref32_Forms n a=_:=hA n hn
    rw [forms_ok (by omega) ta] at h
    obtain⟨y,hy,h⟩:=bindS h
    cases y with
    |inl o =>
     have:o=fa:=congrArg ref32_Read.L (Option.some.inj h)
     rw [hy,this]
    |inr o =>
     have h1:=(inr_E _ _ _ _ _ hy).1
     rw [Option.some.inj h] at h1
     exact absurd rfl h1
   have runJ:∀ n,NA+NB+400<=n->∃ j c2,NB<=j/\0<=c2/\c2<=(l0.length:Int)/\(fa.length:Int)<=(l0.length:Int)/\ref32_Forms_l1 n ⟨M,⟨0,0⟩⟩ [] 0 0=ref32_Forms_l1 j ⟨M,⟨0,0⟩⟩ fa (l0.length:Int) c2:=by
    intro n hn
    obtain⟨j,c2,j1,j2,j3,j4,j5⟩:=top_pre (P:=⟨0,0⟩) A1 (by simp) (by omega) (kind5 ta) fa n [] 0 0 (by decide) (by decide) (by decide) (runA n (by omega))
    exact⟨j,c2,by omega,j2,j3,j4,j5⟩
   refine⟨⟨0,0,⟨#[]⟩,[],0⟩,NA+NB+400,fun n hn=>?_⟩
   obtain⟨j,c2,j1,j2,j3,j4,j5⟩:=runJ n hn
   have hb:ref32_Forms j b=_:=hB j j1
   rw [forms_ok (by omega) tb] at hb
   obtain⟨r,hr,hb⟩:=bindS hb
   have hs:=top_suf (P:=⟨0,0⟩) A2 (m:=c2) ⟨j2,by rw [List.length_map];omega⟩ (la:=fa) (by omega) j [] 0 0 r (by decide) (by decide) (by decide) hr
   rw [show fa++shFs (qd ((a.size:Int)+1)) []=fa from List.append_nil _,Int.zero_add,Int.zero_add] at hs
   show ref32_Forms n J=_
   rw [forms_ok (by omega) tJ,hMM,j5]
   rcases hs with⟨o2,rfl,h2⟩|⟨p,w,hw,rfl,h2⟩
   . have e:=Option.some.inj hb
     have e1:o2=fb:=congrArg ref32_Read.L e
     have e2:(⟨0,0⟩:api_Problem)=pb:=congrArg ref32_Read.P e
     subst e1 e2
     rw [h2,if_pos rfl];rfl
   . have e:=Option.some.inj hb
     have e2:(⟨p,w⟩:api_Problem)=pb:=congrArg ref32_Read.P e
     subst e2
     rw [h2,if_neg hw];rfl
end Go.Sp
namespace Go.Sp
open Go Go.Vl
set_option linter.unusedVariables false
def law32_ParseJoins (n:Nat)(a_:ByteArray)(b:ByteArray):Option Bool :=
 ((bif (decide (300<(a_.size:Int))) then
  some true
 else
  some (decide (300<(b.size:Int)))
 ):Option Bool).bind fun v19 =>
  bif v19 then
   (saneT).bind fun s =>
   some s
  else
   (parse_Forms n a_).bind fun f =>
   bif (f.2.E != 0) then
    (((saneT).bind fun s1 =>
    bif s1 then
     bif (decide (0<=f.2.At)) then
      bif (decide (f.2.At<=(a_.size:Int))) then
       some ((f.1.length:Int) == 0)
      else
       some false
     else
      some false
    else
     some false
    ):Option Bool).bind fun v4 =>
     some v4
   else
    (parse_Forms n b).bind fun f1 =>
    (gcat a_ ⟨#[10]⟩).bind fun s2 =>
    (gcat s2 b).bind fun s3 =>
    (parse_Forms n s3).bind fun f2 =>
    bif (f1.2.E != 0) then
     (((saneT).bind fun s4 =>
     bif s4 then
      bif ((f2.2.At == (IntKind.i64.wrap ((IntKind.i64.wrap (f1.2.At+(a_.size:Int)))+1)))&&((f2.2.E == f1.2.E)&&true)) then
       some ((f2.1.length:Int) == 0)
      else
       some false
     else
      some false
     ):Option Bool).bind fun v41 =>
      some v41
    else
     (gapp 73 [] f.1).bind fun l =>
     (law32_shifted n f1.1 (IntKind.i64.wrap ((a_.size:Int)+1))).bind fun s5 =>
     (gapp 73 l s5).bind fun l1 =>
     (((saneT).bind fun s6 =>
     bif s6 then
      bif ((f2.2.At == 0)&&((f2.2.E == 0)&&true)) then
       (ref32_Same n f2.1 l1 true).bind fun s7 =>
       some s7
      else
       some false
     else
      some false
     ):Option Bool).bind fun v42 =>
      some v42
end Go.Sp
namespace Go.Sp
open Go
theorem joins_law (a b:ByteArray):∃ n,law32_ParseJoins n a b=some true:=by
 suffices h:Ev (fun n=>law32_ParseJoins n a b) true from h.get
 unfold law32_ParseJoins
 by_cases c:a.size<=300/\b.size<=300
 . obtain⟨ca,cb⟩:=c
   refine Ev.bind (a:=false) (Ev.const ?_) ?_
   . simp only [decide_eq_false (show ¬ (300:Int)<(a.size:Int) by omega),decide_eq_false (show ¬ (300:Int)<(b.size:Int) by omega),cond_false]
   simp only [cond_false]
   obtain⟨fa,pa,xa,a1,a2,af,a0,_⟩:=bothForms a
   obtain⟨fb,pb,xb,b1,b2,bf,b0,b3⟩:=bothForms b
   refine Ev.bind a1 ?_
   by_cases pa0:pa.E=0
   . simp only [pa0,bne_self_eq_false,cond_false]
     obtain rfl:=a0 pa0
     have e1:(⟨#[10]⟩:ByteArray).size<=1:=Nat.le_refl 1
     obtain⟨s2,g2,z2,v2⟩:=gcat_le ca e1 (by decide)
     obtain⟨s3,g3,z3,v3⟩:=gcat_le z2 cb (by decide)
     obtain⟨fj,pj,xj,j1,j2,jf,j0,j3⟩:=bothForms s3
     obtain⟨x,hj⟩:=joins_ref (J:=s3) (by rw [v3,v2];simp) ca cb a2 b2
     have hj:=j2.uniq hj
     refine Ev.bind b1 (Ev.bind (Ev.const g2) (Ev.bind (Ev.const g3) (Ev.bind j1 ?_)))
     by_cases pb0:pb.E=0
     . rw [if_pos pb0] at hj
       have h1:fj=fa++shFs (qd ((a.size:Int)+1)) fb:=congrArg ref32_Read.L hj
       have h2:pj=⟨0,0⟩:=congrArg ref32_Read.P hj
       have w1:IntKind.i64.wrap ((a.size:Int)+1)=(a.size:Int)+1:=by rw [wrap_id]<;>omega
       have l1:=jf.1
       rw [h1,List.length_append] at l1
       have g4:gapp 73 [] fa=some fa:=by
        unfold gapp
        rw [if_pos (by simp only [List.length_nil];omega),List.nil_append]
       have g5:gapp 73 fa (shFs (qd ((a.size:Int)+1)) fb)=some fj:=by
        unfold gapp
        rw [if_pos (by omega),h1]
       simp only [pb0,bne_self_eq_false,cond_false,w1]
       refine Ev.bind (Ev.const g4) (Ev.bind (shift_ev bf) (Ev.bind (Ev.const g5) ?_))
       simp only [sane,Option.bind_some,cond_true,h2,beq_self_eq_true,Bool.and_self]
       exact Ev.bind (Ev.bind (same_refl jf) Ev.pure) Ev.pure
     . rw [if_neg pb0] at hj
       have h1:fj=[]:=congrArg ref32_Read.L hj
       have h2:pj=⟨qd ((a.size:Int)+1) pb.At,pb.E⟩:=congrArg ref32_Read.P hj
       obtain⟨q0,q1,_⟩:=forms_at (by omega) b2 pb0
       have w1:IntKind.i64.wrap (pb.At+(a.size:Int))=pb.At+(a.size:Int):=by rw [wrap_id]<;>omega
       have w2:IntKind.i64.wrap (pb.At+(a.size:Int)+1)=pb.At+((a.size:Int)+1):=by rw [wrap_id]<;>omega
       simp only [show (pb.E != 0)=true by simpa using pb0,cond_true,sane,Option.bind_some,h2,h1,w1,w2,qd_id (show 0<=pb.At+((a.size:Int)+1) by omega) (by omega),beq_self_eq_true,Bool.and_self,List.length_nil]
       exact Ev.pure
   . obtain⟨q0,q1,h1⟩:=forms_at (by omega) a2 pa0
     simp only [show (pa.E != 0)=true by simpa using pa0,cond_true,sane,Option.bind_some,decide_eq_true q0,decide_eq_true q1,h1,List.length_nil]
     exact Ev.pure
 . refine Ev.bind (a:=true) (Ev.const ?_) ?_
   . by_cases ca:a.size<=300
     . simp only [decide_eq_false (show ¬ (300:Int)<(a.size:Int) by omega),decide_eq_true (show (300:Int)<(b.size:Int) by omega),cond_false]
     . simp only [decide_eq_true (show (300:Int)<(a.size:Int) by omega),cond_true]
   simp only [cond_true,sane,Option.bind_some]
   exact Ev.pure
end Go.Sp
