/-
  What is read around an expression in parentheses: the levels of operators, a sign before it, a call of two. No program.
-/
import Derived.Test.YtgdalmleogphgaaGreatDoorU13
namespace Go.Sp
open Go
def EH (F:Nat->Option ref32_Got)(to:Int)(X:api_Expr):Prop:=∃ g,Ev F g/\(g.E=2∨g.E=0/\g.To=to/\stE g.X=stE X)
theorem EH.ok {Y X:api_Expr}{to:Int}(h:stE Y=stE X):EH (fun _=>some ⟨Y,to,0⟩) to X:=⟨_,Ev.pure,.inr ⟨rfl,rfl,h⟩⟩
theorem EH.step {F G:Nat->Option ref32_Got}{to:Int}{X:api_Expr}(e:∀ n,F (n+1)=G n)(h:EH G to X):EH F to X:=by
 obtain⟨g,h,hg⟩:=h;exact⟨g,Ev.step e h,hg⟩
theorem EH.id {F:Nat->Option ref32_Got}{to:Int}{X:api_Expr}(h:EH F to X):EH (fun n=>(F n).bind fun x=>some x) to X:=by
 obtain⟨g,h,hg⟩:=h;exact⟨g,Ev.bind h Ev.pure,hg⟩
theorem EH.bind {F:Nat->Option ref32_Got}{K:Nat->ref32_Got->Option ref32_Got}{to to2:Int}{X X2:api_Expr}(h:EH F to X)
 (k:∀ Y,stE Y=stE X->EH (fun n=>K n ⟨Y,to,0⟩) to2 X2):EH (fun n=>(F n).bind fun g=>bif (g.E != 0) then some g else K n g) to2 X2:=by
 obtain⟨⟨Y,t,e⟩,h,hg⟩:=h
 rcases hg with h1|⟨h1,h2,h3⟩
 . refine⟨⟨Y,t,e⟩,Ev.bind h (Ev.of fun n=>?_),.inl h1⟩
   cases h1;rfl
 . cases h1;cases h2
   obtain⟨g,h4,hg⟩:=k Y h3
   exact⟨g,Ev.bind h h4,hg⟩
section
variable {M:List api_Token} {k d to:Int} {t tt:api_Token} {X:api_Expr} (hk:gi M k=some t)
include hk
theorem eh_minus (hm:isS t ⟨#[45]⟩=false)(h:EH (fun n=>ref32_atom n M k d) to X):EH (fun n=>ref32_minus n M k d) to X:=by
 refine EH.step (fun n=>ref32_minus.eq_2 (n:=n) _ _ _) ?_
 have e:ref32_sign M k ⟨#[45]⟩=some (isS t ⟨#[45]⟩):=sign_of hk
 simp only [e,hm,Option.bind_some,Bool.not_false,cond_true]
 exact h.id
theorem eh_3 (hm:isS t ⟨#[33]⟩=false)(h:EH (fun n=>ref32_binary n M k 4 d) to X):EH (fun n=>ref32_binary n M k 3 d) to X:=by
 refine EH.step (fun n=>ref32_binary.eq_2 (n:=n) _ _ _ _) ?_
 simp only [show decide ((6:Int)<3)=false from rfl,show ((3:Int) == 3)=true from rfl,cond_false,cond_true]
 refine EH.id (EH.step (fun n=>ref32_bang.eq_2 (n:=n) _ _ _) ?_)
 have e:ref32_sign M k ⟨#[33]⟩=some (isS t ⟨#[33]⟩):=sign_of hk
 simp only [e,hm,Option.bind_some,Bool.not_false,cond_true]
 exact h.id
theorem eh_expr (hf:fst t d true=0)(h:EH (fun n=>ref32_binary n M k 1 d) to X)(ht:gi M to=some tt)(hq:isS tt ⟨#[63]⟩=false):EH (fun n=>ref32_expr n M k d) to X:=by
 refine EH.step (fun n=>ref32_expr.eq_2 (n:=n) _ _ _) ?_
 simp only [first_of hk,hf,Option.bind_some,bne_self_eq_false,cond_false]
 refine EH.bind h fun Y hY=>?_
 have e:ref32_sign M to ⟨#[63]⟩=some (isS tt ⟨#[63]⟩):=sign_of ht
 simp only [e,hq,Option.bind_some,Bool.not_false,cond_true]
 exact EH.ok hY
end
section
variable {M:List api_Token} {k d to:Int} {t tt:api_Token} {X:api_Expr}
theorem eh_7 (h:EH (fun n=>ref32_minus n M k d) to X):EH (fun n=>ref32_binary n M k 7 d) to X:=by
 refine EH.step (fun n=>ref32_binary.eq_2 (n:=n) _ _ _ _) ?_
 simp only [show decide ((6:Int)<7)=true from rfl,cond_true]
 exact h.id
theorem eh_loop {lv:Int}(hlv:1<=lv/\lv<=6/\lv≠3)(h:EH (fun n=>ref32_binary n M k (lv+1) d) to X){to2:Int}{X2:api_Expr}
 (hl:∀ x Y,stE Y=stE X->∃ g,Ev (fun n=>ref32_binary_l1 n M lv x d Y.Op Y.N Y.S Y.Kids to 0) (.inr g)/\(g.E=2∨g.E=0/\g.To=to2/\stE g.X=stE X2)):EH (fun n=>ref32_binary n M k lv d) to2 X2:=by
 refine EH.step (fun n=>ref32_binary.eq_2 (n:=n) _ _ _ _) ?_
 have q1:decide (6<lv)=false:=by rw [decide_eq_false_iff_not];omega
 have q2:(lv == 3)=false:=by simpa using hlv.2.2
 have w:IntKind.i64.wrap (lv+1)=lv+1:=by rw [wrap_id]<;>omega
 simp only [q1,q2,cond_false,w]
 obtain⟨⟨Y,t,e⟩,hg,hh⟩:=h
 rcases hh with h1|⟨h1,h2,h3⟩
 . cases h1
   refine⟨⟨⟨Y.Op,Y.N,Y.S,Y.Kids,Y.At⟩,t,2⟩,Ev.bind hg ?_,.inl rfl⟩
   exact Ev.bind (Ev.step (fun n=>ref32_binary_l1.eq_2 (n:=n) _ _ _ _ _ _ _ _ _ _) (Ev.of fun n=>rfl)) Ev.pure
 . cases h1;cases h2
   obtain⟨g,h4,h5⟩:=hl ⟨Y,t,0⟩ Y h3
   exact⟨g,Ev.bind hg (Ev.bind h4 Ev.pure),h5⟩
theorem eh_up {lv:Int}(hlv:1<=lv/\lv<=6/\lv≠3)(h:EH (fun n=>ref32_binary n M k (lv+1) d) to X)(ht:gi M to=some tt)(hn:(lev tt).N≠lv):EH (fun n=>ref32_binary n M k lv d) to X:=by
 refine eh_loop hlv h fun x Y hY=>?_
 refine⟨⟨⟨Y.Op,Y.N,Y.S,Y.Kids,x.X.At⟩,to,0⟩,Ev.step (fun n=>ref32_binary_l1.eq_2 (n:=n) _ _ _ _ _ _ _ _ _ _) ?_,.inr ⟨rfl,rfl,?_⟩⟩
 . simp only [beq_self_eq_true,cond_true]
   refine Ev.bind (level_ev ht) ?_
   simp only [show ((lev tt).N != lv)=true by simpa using hn,cond_true]
   exact Ev.pure
 . rw [<- hY];cases Y;rfl
theorem eh_bin {lv to2:Int}{tt2:api_Token}{X2:api_Expr}(hM:M.length<=1000000)(hlv:1<=lv/\lv<=6/\lv≠3)(h:EH (fun n=>ref32_binary n M k (lv+1) d) to X)(ht:gi M to=some tt)(hn:(lev tt).N=lv)
 (h2:EH (fun n=>ref32_binary n M (to+1) (lv+1) d) to2 X2) (ht2:gi M to2=some tt2) (hn2:(lev tt2).N≠lv):EH (fun n=>ref32_binary n M k lv d) to2 ⟨(lev tt).Op,0,⟨#[]⟩,[X,X2],0⟩:=by
 refine eh_loop hlv h fun x Y hY=>?_
 have hr:=(drop_of_gi ht).2
 have w1:IntKind.i64.wrap (to+1)=to+1:=by rw [wrap_id]<;>omega
 have w2:IntKind.i64.wrap (lv+1)=lv+1:=by rw [wrap_id]<;>omega
 have hY2:stE (api_Expr.mk Y.Op Y.N Y.S Y.Kids x.X.At)=stE X:=by rw [<- hY];cases Y;rfl
 obtain⟨⟨Z,z,e⟩,hz,hh⟩:=h2
 have st:∀ g,Ev (fun n=>(bif (e != 0) then some (.inr ⟨Z,z,e⟩) else
  (bif (lv == 4) then some (.inr ⟨⟨(lev tt).Op,0,⟨#[]⟩,[api_Expr.mk Y.Op Y.N Y.S Y.Kids x.X.At,Z],x.X.At⟩,z,0⟩)
   else ref32_binary_l1 n M lv x d (lev tt).Op 0 ⟨#[]⟩ [api_Expr.mk Y.Op Y.N Y.S Y.Kids x.X.At,Z] z 0):Option ((Int×Int×ByteArray×(List api_Expr)×Int×Int) ⊕ ref32_Got))) (.inr g)->Ev (fun n=>ref32_binary_l1 n M lv x d Y.Op Y.N Y.S Y.Kids to 0) (.inr g):=by
  intro g hg
  refine Ev.step (fun n=>ref32_binary_l1.eq_2 (n:=n) _ _ _ _ _ _ _ _ _ _) ?_
  simp only [beq_self_eq_true,cond_true]
  refine Ev.bind (level_ev ht) ?_
  simp only [show ((lev tt).N != lv)=false by simpa using hn,cond_false,w1,w2]
  exact Ev.bind hz hg
 rcases hh with h1|⟨h1,h3,h4⟩
 . cases h1
   exact⟨⟨Z,z,2⟩,st _ Ev.pure,.inl rfl⟩
 . cases h1;cases h3
   refine⟨⟨⟨(lev tt).Op,0,⟨#[]⟩,[api_Expr.mk Y.Op Y.N Y.S Y.Kids x.X.At,Z],x.X.At⟩,z,0⟩,st _ ?_,.inr ⟨rfl,rfl,stE_mk (stL_2 hY2 h4)⟩⟩
   simp only [show (Int.ofNat 0 != 0)=false from rfl,cond_false]
   cases lv == 4 with
   |true=>exact Ev.pure
   |false =>
    simp only [cond_false]
    refine Ev.step (fun n=>ref32_binary_l1.eq_2 (n:=n) _ _ _ _ _ _ _ _ _ _) ?_
    simp only [beq_self_eq_true,cond_true]
    refine Ev.bind (level_ev ht2) ?_
    simp only [show ((lev tt2).N != lv)=true by simpa using hn2,cond_true]
    exact Ev.pure
end
section
variable {M:List api_Token} {k d to:Int} {t tt:api_Token} {X:api_Expr} (hM:M.length<=1000000) (hk:gi M k=some t)
include hM hk
theorem eh_paren (hd:0<=d/\d<=1000)(h1:isS t ⟨#[40]⟩=true)(h:EH (fun n=>ref32_expr n M (k+1) (d+1)) to X)(ht:gi M to=some tt)(h2:isS tt ⟨#[41]⟩=true):EH (fun n=>ref32_atom n M k d) (to+1) X:=by
 have hr:=(drop_of_gi hk).2
 have hr2:=(drop_of_gi ht).2
 have w1:IntKind.i64.wrap (k+1)=k+1:=by rw [wrap_id]<;>omega
 have w2:IntKind.i64.wrap (d+1)=d+1:=by rw [wrap_id]<;>omega
 have w3:IntKind.i64.wrap (to+1)=to+1:=by rw [wrap_id]<;>omega
 refine EH.step (fun n=>ref32_atom.eq_2 (n:=n) _ _ _) ?_
 have e:ref32_sign M k ⟨#[40]⟩=some (isS t ⟨#[40]⟩):=sign_of hk
 have e2:ref32_sign M to ⟨#[41]⟩=some (isS tt ⟨#[41]⟩):=sign_of ht
 simp only [hk,e,h1,Option.bind_some,cond_true,w1,w2]
 refine EH.bind h fun Y hY=>?_
 simp only [e2,h2,Option.bind_some,Bool.not_true,cond_false,w3]
 exact EH.ok hY
theorem eh_neg (hd:0<=d/\d<=1000)(h1:isS t ⟨#[45]⟩=true)(ht:gi M (k+1)=some tt)(hf:fst tt (d+1) false=0)(h:EH (fun n=>ref32_minus n M (k+1) (d+1)) to X):EH (fun n=>ref32_minus n M k d) to ⟨6,0,⟨#[]⟩,[X],0⟩:=by
 have hr:=(drop_of_gi hk).2
 have w1:IntKind.i64.wrap (k+1)=k+1:=by rw [wrap_id]<;>omega
 have w2:IntKind.i64.wrap (d+1)=d+1:=by rw [wrap_id]<;>omega
 refine EH.step (fun n=>ref32_minus.eq_2 (n:=n) _ _ _) ?_
 have e:ref32_sign M k ⟨#[45]⟩=some (isS t ⟨#[45]⟩):=sign_of hk
 simp only [e,h1,Option.bind_some,Bool.not_true,cond_false,w1,w2,first_of ht,hf,bne_self_eq_false]
 refine EH.bind h fun Y hY=>?_
 simp only [hk,Option.bind_some]
 exact EH.ok (stE_mk (stL_1 hY))
theorem eh_not (hd:0<=d/\d<=1000)(h1:isS t ⟨#[33]⟩=true)(ht:gi M (k+1)=some tt)(hf:fst tt (d+1) true=0)(h:EH (fun n=>ref32_bang n M (k+1) (d+1)) to X):EH (fun n=>ref32_bang n M k d) to ⟨5,0,⟨#[]⟩,[X],0⟩:=by
 have hr:=(drop_of_gi hk).2
 have w1:IntKind.i64.wrap (k+1)=k+1:=by rw [wrap_id]<;>omega
 have w2:IntKind.i64.wrap (d+1)=d+1:=by rw [wrap_id]<;>omega
 refine EH.step (fun n=>ref32_bang.eq_2 (n:=n) _ _ _) ?_
 have e:ref32_sign M k ⟨#[33]⟩=some (isS t ⟨#[33]⟩):=sign_of hk
 simp only [e,h1,Option.bind_some,Bool.not_true,cond_false,w1,w2,first_of ht,hf,bne_self_eq_false]
 refine EH.bind h fun Y hY=>?_
 simp only [hk,Option.bind_some]
 exact EH.ok (stE_mk (stL_1 hY))
theorem eh_call (hd:0<=d/\d<=20)(h1:t.Kind=1){t1 ta tb tc:api_Token}{to2:Int}{X2:api_Expr}(hk1:gi M (k+1)=some t1)(hp:isS t1 ⟨#[40]⟩=true)
 (ha:gi M (k+2)=some ta) (fa:fst ta (d+1) true=0) (h:EH (fun n=>ref32_expr n M (k+2) (d+1)) to X) (ht:gi M to=some tt) (h2:isS tt ⟨#[44]⟩=true)
 (hb:gi M (to+1)=some tb) (fb:fst tb (d+1) true=0) (h':EH (fun n=>ref32_expr n M (to+1) (d+1)) to2 X2) (hc:gi M to2=some tc) (h3:isS tc ⟨#[41]⟩=true) :
 EH (fun n=>ref32_atom n M k d) (to2+1) ⟨4,0,t.S,[X,X2],0⟩:=by
 have hr:=(drop_of_gi hk).2
 have hr1:=(drop_of_gi ht).2
 have hr2:=(drop_of_gi hc).2
 have w1:IntKind.i64.wrap (k+1)=k+1:=by rw [wrap_id]<;>omega
 have w2:IntKind.i64.wrap (d+1)=d+1:=by rw [wrap_id]<;>omega
 have w3:IntKind.i64.wrap (k+2)=k+2:=by rw [wrap_id]<;>omega
 have w4:IntKind.i64.wrap (to+1)=to+1:=by rw [wrap_id]<;>omega
 have w5:IntKind.i64.wrap (to2+1)=to2+1:=by rw [wrap_id]<;>omega
 have no:∀ {u:api_Token} {d:Int},fst u d true=0->isS u ⟨#[41]⟩=false:=by
  intro u d hf
  cases e:isS u ⟨#[41]⟩ with
  |false=>rfl
  |true =>
   unfold isS at e
   simp only [Bool.and_eq_true,beq_iff_eq,decide_eq_true_eq] at e
   unfold fst beg at hf
   rw [e.1,e.2] at hf
   rw [if_pos (by decide)] at hf
   exact absurd hf (by decide)
 have no2:isS tt ⟨#[41]⟩=false:=by
  unfold isS at h2 ⊢
  simp only [Bool.and_eq_true,beq_iff_eq,decide_eq_true_eq] at h2
  rw [h2.1,h2.2];decide
 have k4:isS t ⟨#[40]⟩=false:=by unfold isS;rw [h1];rfl
 have e0:ref32_sign M k ⟨#[40]⟩=some (isS t ⟨#[40]⟩):=sign_of hk
 have e1:ref32_sign M (k+1) ⟨#[40]⟩=some (isS t1 ⟨#[40]⟩):=sign_of hk1
 have e2:ref32_sign M (k+2) ⟨#[41]⟩=some (isS ta ⟨#[41]⟩):=sign_of ha
 have e3:ref32_sign M to ⟨#[41]⟩=some (isS tt ⟨#[41]⟩):=sign_of ht
 have e4:ref32_sign M to ⟨#[44]⟩=some (isS tt ⟨#[44]⟩):=sign_of ht
 have e5:ref32_sign M to2 ⟨#[41]⟩=some (isS tc ⟨#[41]⟩):=sign_of hc
 refine EH.step (fun n=>ref32_atom.eq_2 (n:=n) _ _ _) ?_
 simp only [hk,e0,k4,h1,Option.bind_some,cond_false,w1,e1,hp,Bool.not_true,show ((1:Int) == 2)=false from rfl,show ((1:Int) == 3)=false from rfl,show ((1:Int) != 1)=false from rfl]
 refine EH.id (EH.step (fun n=>ref32_args.eq_2 (n:=n) _ _ _) ?_)
 simp only [hk,Option.bind_some,w3,e2,no fa,cond_false]
 refine EH.step (fun n=>ref32_args_l1.eq_2 (n:=n) _ _ _ _ _) ?_
 simp only [w2,first_of ha,fa,Option.bind_some,show ((0:Int) == 0)=true from rfl,show ((0:Int) == 2)=false from rfl,cond_true,List.length_nil,show (((0:Nat):Int) == 40)=false from rfl,cond_false]
 refine EH.bind h fun Y hY=>?_
 simp only [show ∀ y:api_Expr,gapp 65 ([]:List api_Expr) [y]=some [y] from fun _=>rfl,Option.bind_some,e3,no2,cond_false,e4,h2,Bool.not_true,w4]
 refine EH.step (fun n=>ref32_args_l1.eq_2 (n:=n) _ _ _ _ _) ?_
 simp only [w2,first_of hb,fb,Option.bind_some,show ((0:Int) == 0)=true from rfl,show ((0:Int) == 2)=false from rfl,cond_true,show ((([Y]:List api_Expr).length:Int) == 40)=false from rfl,cond_false]
 refine EH.bind h' fun Z hZ=>?_
 simp only [show ∀ y z:api_Expr,gapp 65 [y] [z]=some [y,z] from fun _ _=>rfl,Option.bind_some,e5,h3,cond_true,w5]
 exact EH.ok (stE_mk (stL_2 hY hZ))
end
end Go.Sp
