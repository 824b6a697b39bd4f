/-
  Two sources with a line feed between: their tokens, their forms. No program. From the tokens' reading to the program's Expr, and back. No program. A source in parentheses is an atom, at depth 1. No program. From an atom up to a whole expression, past all levels of operators. No program. The first of ParseNests' sources: an expression in parentheses. No program. Signs and names ahead of a parenthesis. No program. A source within another: its tokens, and what surrounds them. No program. An expression in parentheses behind a minus sign, and behind a not. No program.
-/
import Derived.Test.YtgdalmleogphgaaGreatDoorU14
import Derived.Test.YtgdalmleogphgaaGreatDoorU24
namespace Go.Sp
open Go
mutual
theorem shE_0:∀ x:api_Expr,shE id x=x
 |.mk a b c l p=>by
  simp only [shE,shL_0 l,id_eq]
  split<;>rfl
theorem shL_0:∀ l:List api_Expr,shL id l=l
 | []=>rfl
 |x::l=>by show shE id x::shL id l=_;rw [shE_0 x,shL_0 l]
end
theorem shA_0 (a:api_Arg):shA id a=a:=by
 unfold shA;rw [shE_0];rfl
theorem shAs_0 (l:List api_Arg):l.map (shA id)=l:=by
 rw [show shA id=id from funext shA_0,List.map_id]
mutual
theorem shF_0:∀ x:api_Form,shF id x=x
 |.mk w g b p=>by simp only [shF,shFs_0 b,shAs_0,id_eq]
theorem shFs_0:∀ l:List api_Form,shFs id l=l
 | []=>rfl
 |x::l=>by show shF id x::shFs id l=_;rw [shF_0 x,shFs_0 l]
end
theorem top_gi {n:Nat}{t:ref31_Read}{out:List api_Form}{k c:Int}{r:List api_Form ⊕ ref32_Read}(h:ref32_Forms_l1 n t out k c=some r):0<=k/\k<(t.L.length:Int):=by
 cases n with
 |zero=>cases (ref32_Forms_l1.eq_1 _ _ _ _).symm.trans h
 |succ n =>
  replace h:=(ref32_Forms_l1.eq_2 (n:=n) _ _ _ _).symm.trans h
  obtain⟨x,hx,_⟩:=bindS h
  exact (drop_of_gi hx).2
theorem top_pre {L M:List api_Token}{P:api_Problem}{e:Int}(A:Ag L M 0 e id)(hL:(L.length:Int)=e+1)(h2:e<1999)(h5:∀ k u,gi L k=some u->(u.Kind=5↔k=e))(la:List api_Form) :
 ∀ (n:Nat) (out:List api_Form) (k c:Int),0<=c->c<=k->(out.length:Int)<=k->ref32_Forms_l1 n ⟨L,P⟩ out k c=some (.inl la) ->
  ∃ (j:Nat) (c2:Int),n<=j+(e-k).toNat/\0<=c2/\c2<=e/\(la.length:Int)<=e/\ref32_Forms_l1 n ⟨M,P⟩ out k c=ref32_Forms_l1 j ⟨M,P⟩ la e c2
 |0,out,k,c,_,_,_,h=>by cases (ref32_Forms_l1.eq_1 _ _ _ _).symm.trans h
 |n+1,out,k,c,c0,c1,ho,h=>by
  have h':=h
  replace h:=(ref32_Forms_l1.eq_2 (n:=n) _ _ _ _).symm.trans h
  obtain⟨x,hx,h⟩:=bindS h
  have hr:=(drop_of_gi hx).2
  rcases condS h with⟨q5,h⟩|⟨q5,h⟩
  . have hk:k<e:=by
     by_cases hk:k=e
     . subst hk
       rw [(h5 _ _ hx).2 rfl] at q5;cases q5
     . simp only at hr;omega
    obtain⟨p,hp,h⟩:=bindS h
    rcases condS h with⟨qe,h⟩|⟨qe,h⟩
    . obtain⟨x2,_,h⟩:=bindS h
      cases Option.some.inj h
    obtain⟨l1,hl1,h⟩:=bindS h
    obtain rfl:=Option.some.inj hl1
    obtain⟨l2,hl2,h⟩:=bindS h
    have hg:=top_gi h
    obtain⟨f,z,c',w⟩:=p
    obtain rfl:w=0:=by simpa using qe
    obtain⟨op,hz,hM⟩:=(simFs (m:=0) A (by omega) n).fF k 1 c c0 c1 _ hp
    obtain⟨o1,o2⟩:=op rfl
    have hz:k<=z-1:=hz
    simp only at hg h o1 o2
    have hM:ref32_form n M (k+0) 1 (c+0)=some ⟨shF id f,z+0,c'+0,0⟩:=hM (show z-1<e by omega)
    rw [shF_0,Int.add_zero,Int.add_zero,Int.add_zero,Int.add_zero] at hM
    have hlen:(l2.length:Int)<=z:=by
     unfold gapp at hl2
     split at hl2
     . obtain rfl:=Option.some.inj hl2
       rw [List.length_append];simp only [List.length_cons,List.length_nil];omega
     . cases hl2
    obtain⟨j,c2,j1,j2,j3,j4,j5⟩:=top_pre A hL h2 h5 la n l2 z c' o1 o2 hlen h
    refine⟨j,c2,by omega,j2,j3,j4,?_⟩
    rw [<- j5]
    refine (ref32_Forms_l1.eq_2 (n:=n) _ _ _ _).trans ?_
    have hxM:=A.same k x hk hx
    rw [show shT id x=x from rfl,Int.add_zero] at hxM
    simp only [hxM,Option.bind_some,q5,cond_true,hM,bne_self_eq_false,cond_false,hl2]
  . have hk:k=e:=(h5 _ _ hx).1 (by simpa using q5)
    obtain rfl:out=la:=by cases Option.some.inj h;rfl
    subst hk
    exact⟨n+1,c,by omega,c0,c1,ho,rfl⟩
theorem top_suf {L M:List api_Token}{P:api_Problem}{s m:Int}{q:Int->Int}(A:Ag L M s (L.length:Int) q)(hm:0<=m/\(L.length:Int)+m<2000){la:List api_Form}(hla:la.length<=2000) :
 ∀ (n:Nat) (out:List api_Form) (k c:Int) (r:List api_Form ⊕ ref32_Read),0<=c->c<=k->(out.length:Int)<=k->ref32_Forms_l1 n ⟨L,P⟩ out k c=some r ->
  (∃ out2,r=.inl out2/\ref32_Forms_l1 n ⟨M,P⟩ (la++shFs q out) (k+s) (c+m)=some (.inl (la++shFs q out2))) ∨
  (∃ p w,w≠0/\r=.inr ⟨[],⟨0,0,⟨#[]⟩,[],0⟩,⟨p,w⟩⟩/\ref32_Forms_l1 n ⟨M,P⟩ (la++shFs q out) (k+s) (c+m)=some (.inr ⟨[],⟨0,0,⟨#[]⟩,[],0⟩,⟨q p,w⟩⟩))
 |0,out,k,c,r,_,_,_,h=>by cases (ref32_Forms_l1.eq_1 _ _ _ _).symm.trans h
 |n+1,out,k,c,r,c0,c1,ho,h=>by
  replace h:=(ref32_Forms_l1.eq_2 (n:=n) _ _ _ _).symm.trans h
  obtain⟨x,hx,h⟩:=bindS h
  have hr:=(drop_of_gi hx).2
  have hxM:=A.same k x hr.2 hx
  rw [ref32_Forms_l1.eq_2 (n:=n)]
  simp only [hxM,Option.bind_some,show (shT q x).Kind=x.Kind from rfl]
  rcases condS h with⟨q5,h⟩|⟨q5,h⟩
  . obtain⟨p,hp,h⟩:=bindS h
    obtain⟨f,z,c',w⟩:=p
    obtain⟨op,hz,hM⟩:=(simFs A hm n).fF k 1 c c0 c1 _ hp
    rcases condS h with⟨qe,h⟩|⟨qe,h⟩
    . have w0:w≠0:=by simpa using qe
      obtain⟨x2,hx2,h⟩:=bindS h
      obtain rfl:=Option.some.inj h
      have hr2:=(drop_of_gi hx2).2
      have e1:(vP q s m).sh ⟨f,z,c',w⟩=⟨f,z+s,c',w⟩:=if_neg w0
      have e2:(vP q s m).to ⟨f,z,c',w⟩=z:=if_neg w0
      have hM:=hM (by rw [e2];exact hr2.2)
      rw [e1] at hM
      have hx2M:=A.same z x2 hr2.2 hx2
      refine .inr ⟨x2.At,w,w0,rfl,?_⟩
      simp only [q5,cond_true,hM,Option.bind_some,qe,hx2M]
      rfl
    . obtain rfl:w=0:=by simpa using qe
      obtain⟨l1,hl1,h⟩:=bindS h
      obtain rfl:=Option.some.inj hl1
      obtain⟨l2,hl2,h⟩:=bindS h
      have hg:=top_gi h
      obtain⟨o1,o2⟩:=op rfl
      have hz:k<=z-1:=hz
      simp only at hg h o1 o2
      have hM:ref32_form n M (k+s) 1 (c+m)=some ⟨shF q f,z+s,c'+m,0⟩:=hM (show z-1<(L.length:Int) by omega)
      have hl:l2=out++[f]:=by
       unfold gapp at hl2
       split at hl2
       . exact (Option.some.inj hl2).symm
       . cases hl2
      have hlen:(l2.length:Int)<=z:=by
       rw [hl,List.length_append];simp only [List.length_cons,List.length_nil];omega
      have ha:gapp 73 (la++shFs q out) [shF q f]=some (la++shFs q l2):=by
       unfold gapp
       rw [if_pos (by simp only [List.length_append,shFs_len,List.length_cons,List.length_nil];omega),hl,shFs_app,List.append_assoc];rfl
      have ih:=top_suf A hm hla n l2 z c' r o1 o2 hlen h
      simp only [q5,cond_true,hM,Option.bind_some,bne_self_eq_false,cond_false,ha]
      exact ih
  . obtain rfl:=Option.some.inj h
    refine .inl ⟨out,rfl,?_⟩
    simp only [q5,cond_false]
end Go.Sp
namespace Go.Sp
open Go
end Go.Sp
namespace Go.Sp
open Go
end Go.Sp
namespace Go.Sp
open Go
section
variable {M:List api_Token} {k d z:Int} {t tt:api_Token} {X:api_Expr} (hk:gi M k=some t) (ht:gi M z=some tt)
include hk ht
end
end Go.Sp
namespace Go.Sp
open Go
end Go.Sp
namespace Go.Sp
open Go
end Go.Sp
namespace Go.Sp
open Go
end Go.Sp
namespace Go.Sp
open Go
end Go.Sp
