/-
  What the reference reads is of a size that its comparison can go through: it is the same as itself. No program.
-/
import Derived.Test.YtgdalmleogphgaaGreatDoorU10
namespace Go.Sp
open Go
inductive FineE:api_Expr->Prop where
 |mk (e:api_Expr) (hl:e.Kids.length<=2165192128543) (h:∀ x∈e.Kids,FineE x):FineE e
def FineK (l:List api_Expr):Prop:=l.length<=2165192128543/\∀ x∈l,FineE x
theorem FineK.e {l:List api_Expr}(h:FineK l){a b d:Int}{c:ByteArray}:FineE ⟨a,b,c,l,d⟩:=.mk _ h.1 h.2
theorem FineE.k {e:api_Expr}(h:FineE e):FineK e.Kids:=by cases h with|mk _ h1 h2=>exact⟨h1,h2⟩
theorem fineK0:FineK []:=⟨by simp,fun x hx=>by cases hx⟩
theorem fineK1 {a:api_Expr}(h:FineE a):FineK [a]:=⟨by simp,fun x hx=>by obtain rfl:=List.mem_singleton.1 hx;exact h⟩
theorem fineK2 {a b:api_Expr}(h:FineE a)(h2:FineE b):FineK [a,b]:=⟨by simp,fun x hx=>by
 rcases List.mem_cons.1 hx with rfl|hx
 . exact h
 . obtain rfl:=List.mem_singleton.1 hx;exact h2⟩
theorem fineK3 {a b c:api_Expr}(h:FineE a)(h2:FineE b)(h3:FineE c):FineK [a,b,c]:=⟨by simp,fun x hx=>by
 rcases List.mem_cons.1 hx with rfl|hx
 . exact h
 . exact (fineK2 h2 h3).2 x hx⟩
theorem gapp_len {α:Type}{b:Nat}(hb:1<=b){x y z:List α}(h:gapp b x y=some z):z=x++y/\z.length<=140737488355328:=by
 unfold gapp at h
 split at h
 . rename_i h1
   obtain rfl:=Option.some.inj h
   refine⟨rfl,?_⟩
   rw [List.length_append]
   exact Nat.le_trans (Nat.le_mul_of_pos_right _ hb) h1
 . cases h
theorem gapp_mul {α:Type}{b:Nat}{x y z:List α}(h:gapp b x y=some z):z.length*b<=140737488355328:=by
 unfold gapp at h
 split at h
 . rename_i h1
   obtain rfl:=Option.some.inj h
   rw [List.length_append];exact h1
 . cases h
theorem fineApp {x y z:List api_Expr}(h:gapp 65 x y=some z)(h1:FineK x)(h2:FineK y):FineK z:=by
 have hm:=gapp_mul h
 obtain⟨rfl,_⟩:=gapp_len (by decide) h
 refine⟨by omega,fun e he=>?_⟩
 rcases List.mem_append.1 he with he|he
 . exact h1.2 e he
 . exact h2.2 e he
structure FinA (n:Nat):Prop where
 E:∀ l k d g,ref32_expr n l k d=some g->FineE g.X
 B:∀ l k v d g,ref32_binary n l k v d=some g->FineE g.X
 L:∀ l v x d a b c e to er r,FineE x.X->FineK e->ref32_binary_l1 n l v x d a b c e to er=some r->(∀ g,r=.inr g->FineE g.X)/\∀ a b c e to er,r=.inl (a,b,c,e,to,er)->FineK e
 M:∀ l k d g,ref32_minus n l k d=some g->FineE g.X
 A:∀ l k d g,ref32_atom n l k d=some g->FineE g.X
 G:∀ l k d g,ref32_bang n l k d=some g->FineE g.X
 S:∀ l k d g,ref32_args n l k d=some g->FineE g.X
 T:∀ l d x to out g,FineK out->ref32_args_l1 n l d x to out=some g->FineE g.X
theorem finA:∀ n,FinA n
 |0=>{
  E:=fun l k d g h=>by simp [ref32_expr] at h
  B:=fun l k v d g h=>by simp [ref32_binary] at h
  L:=fun l v x d a b c e to er r _ _ h=>by simp [ref32_binary_l1] at h
  M:=fun l k d g h=>by simp [ref32_minus] at h
  A:=fun l k d g h=>by simp [ref32_atom] at h
  G:=fun l k d g h=>by simp [ref32_bang] at h
  S:=fun l k d g h=>by simp [ref32_args] at h
  T:=fun l d x to out g _ h=>by simp [ref32_args_l1] at h }
 |n+1=>by
  have ih:=finA n
  have z:∀ {a b d:Int} {c:ByteArray},FineE ⟨a,b,c,[],d⟩:=fineK0.e
  refine⟨?_,?_,?_,?_,?_,?_,?_,?_⟩
  . intro l k d g h
    replace h:=(ref32_expr.eq_2 (n:=n) _ _ _).symm.trans h
    obtain⟨_,_,h⟩:=bindS h
    rcases condS h with⟨_,h⟩|⟨_,h⟩
    . obtain rfl:=Option.some.inj h;exact z
    obtain⟨c,hc,h⟩:=bindS h
    have fc:=ih.B _ _ _ _ _ hc
    rcases condS h with⟨_,h⟩|⟨_,h⟩
    . obtain rfl:=Option.some.inj h;exact fc
    obtain⟨_,_,h⟩:=bindS h
    rcases condS h with⟨_,h⟩|⟨_,h⟩
    . obtain rfl:=Option.some.inj h;exact fc
    obtain⟨a,ha,h⟩:=bindS h
    have fa:=ih.E _ _ _ _ ha
    rcases condS h with⟨_,h⟩|⟨_,h⟩
    . obtain rfl:=Option.some.inj h;exact fa
    obtain⟨_,_,h⟩:=bindS h
    rcases condS h with⟨_,h⟩|⟨_,h⟩
    . obtain rfl:=Option.some.inj h;exact z
    obtain⟨b,hb,h⟩:=bindS h
    have fb:=ih.E _ _ _ _ hb
    rcases condS h with⟨_,h⟩|⟨_,h⟩
    . obtain rfl:=Option.some.inj h;exact fb
    obtain⟨l1,hl,h⟩:=bindS h
    obtain rfl:=Option.some.inj hl
    obtain rfl:=Option.some.inj h
    exact (fineK3 fc fa fb).e
  . intro l k v d g h
    replace h:=(ref32_binary.eq_2 (n:=n) _ _ _ _).symm.trans h
    rcases condS h with⟨_,h⟩|⟨_,h⟩
    . obtain⟨m,hm,h⟩:=bindS h
      obtain rfl:=Option.some.inj h
      exact ih.M _ _ _ _ hm
    rcases condS h with⟨_,h⟩|⟨_,h⟩
    . obtain⟨m,hm,h⟩:=bindS h
      obtain rfl:=Option.some.inj h
      exact ih.G _ _ _ _ hm
    obtain⟨x,hx,h⟩:=bindS h
    have fx:=ih.B _ _ _ _ _ hx
    obtain⟨y,hy,h⟩:=bindS h
    have hL:=ih.L _ _ _ _ _ _ _ _ _ _ _ fx fx.k hy
    rcases y with⟨a,b,c,e,to,er⟩|o
    . obtain rfl:=Option.some.inj h
      exact (hL.2 _ _ _ _ _ _ rfl).e
    . obtain rfl:=Option.some.inj h
      exact hL.1 _ rfl
  . intro l v x d a b c e to er r fx fe h
    replace h:=(ref32_binary_l1.eq_2 (n:=n) _ _ _ _ _ _ _ _ _ _).symm.trans h
    rcases condS h with⟨_,h⟩|⟨_,h⟩
    . obtain⟨op,_,h⟩:=bindS h
      rcases condS h with⟨_,h⟩|⟨_,h⟩
      . obtain rfl:=Option.some.inj h
        exact⟨fun g e2=>by cases e2;exact fe.e,fun _ _ _ _ _ _ e2=>by cases e2⟩
      obtain⟨y,hy,h⟩:=bindS h
      have fy:=ih.B _ _ _ _ _ hy
      rcases condS h with⟨_,h⟩|⟨_,h⟩
      . obtain rfl:=Option.some.inj h
        exact⟨fun g e2=>by cases e2;exact fy,fun _ _ _ _ _ _ e2=>by cases e2⟩
      obtain⟨l1,hl,h⟩:=bindS h
      obtain rfl:=Option.some.inj hl
      have f2:FineK [api_Expr.mk a b c e x.X.At,y.X]:=fineK2 fe.e fy
      rcases condS h with⟨_,h⟩|⟨_,h⟩
      . obtain rfl:=Option.some.inj h
        exact⟨fun g e2=>by cases e2;exact f2.e,fun _ _ _ _ _ _ e2=>by cases e2⟩
      exact ih.L _ _ _ _ _ _ _ _ _ _ _ fx f2 h
    . obtain rfl:=Option.some.inj h
      exact⟨fun g e2=>(by cases e2),fun a' b' c' e' to' er' e2=>by
       have:=Sum.inl.inj e2
       simp only [Prod.mk.injEq] at this
       rw [<- this.2.2.2.1];exact fe⟩
  . intro l k d g h
    replace h:=(ref32_minus.eq_2 (n:=n) _ _ _).symm.trans h
    obtain⟨_,_,h⟩:=bindS h
    rcases condS h with⟨_,h⟩|⟨_,h⟩
    . obtain⟨m,hm,h⟩:=bindS h
      obtain rfl:=Option.some.inj h
      exact ih.A _ _ _ _ hm
    obtain⟨_,_,h⟩:=bindS h
    rcases condS h with⟨_,h⟩|⟨_,h⟩
    . obtain rfl:=Option.some.inj h;exact z
    obtain⟨x,hx,h⟩:=bindS h
    have fx:=ih.M _ _ _ _ hx
    rcases condS h with⟨_,h⟩|⟨_,h⟩
    . obtain rfl:=Option.some.inj h;exact fx
    obtain⟨_,_,h⟩:=bindS h
    obtain⟨l1,hl,h⟩:=bindS h
    obtain rfl:=Option.some.inj hl
    obtain rfl:=Option.some.inj h
    exact (fineK1 fx).e
  . intro l k d g h
    replace h:=(ref32_atom.eq_2 (n:=n) _ _ _).symm.trans h
    obtain⟨_,_,h⟩:=bindS h
    obtain⟨_,_,h⟩:=bindS h
    rcases condS h with⟨_,h⟩|⟨_,h⟩
    . obtain⟨x,hx,h⟩:=bindS h
      have fx:=ih.E _ _ _ _ hx
      rcases condS h with⟨_,h⟩|⟨_,h⟩
      . obtain rfl:=Option.some.inj h;exact fx
      obtain⟨_,_,h⟩:=bindS h
      rcases condS h with⟨_,h⟩|⟨_,h⟩
      . obtain rfl:=Option.some.inj h;exact z
      . obtain rfl:=Option.some.inj h;exact fx
    rcases condS h with⟨_,h⟩|⟨_,h⟩
    . obtain rfl:=Option.some.inj h;exact z
    rcases condS h with⟨_,h⟩|⟨_,h⟩
    . obtain rfl:=Option.some.inj h;exact z
    rcases condS h with⟨_,h⟩|⟨_,h⟩
    . obtain rfl:=Option.some.inj h;exact z
    obtain⟨_,_,h⟩:=bindS h
    rcases condS h with⟨_,h⟩|⟨_,h⟩
    . obtain rfl:=Option.some.inj h;exact z
    obtain⟨m,hm,h⟩:=bindS h
    obtain rfl:=Option.some.inj h
    exact ih.S _ _ _ _ hm
  . intro l k d g h
    replace h:=(ref32_bang.eq_2 (n:=n) _ _ _).symm.trans h
    obtain⟨_,_,h⟩:=bindS h
    rcases condS h with⟨_,h⟩|⟨_,h⟩
    . obtain⟨m,hm,h⟩:=bindS h
      obtain rfl:=Option.some.inj h
      exact ih.B _ _ _ _ _ hm
    obtain⟨_,_,h⟩:=bindS h
    rcases condS h with⟨_,h⟩|⟨_,h⟩
    . obtain rfl:=Option.some.inj h;exact z
    obtain⟨x,hx,h⟩:=bindS h
    have fx:=ih.G _ _ _ _ hx
    rcases condS h with⟨_,h⟩|⟨_,h⟩
    . obtain rfl:=Option.some.inj h;exact fx
    obtain⟨_,_,h⟩:=bindS h
    obtain⟨l1,hl,h⟩:=bindS h
    obtain rfl:=Option.some.inj hl
    obtain rfl:=Option.some.inj h
    exact (fineK1 fx).e
  . intro l k d g h
    replace h:=(ref32_args.eq_2 (n:=n) _ _ _).symm.trans h
    obtain⟨_,_,h⟩:=bindS h
    obtain⟨_,_,h⟩:=bindS h
    rcases condS h with⟨_,h⟩|⟨_,h⟩
    . obtain rfl:=Option.some.inj h;exact z
    . exact ih.T _ _ _ _ _ _ fineK0 h
  . intro l d x to out g fo h
    replace h:=(ref32_args_l1.eq_2 (n:=n) _ _ _ _ _).symm.trans h
    obtain⟨_,_,h⟩:=bindS h
    obtain⟨_,_,h⟩:=bindS h
    rcases condS h with⟨_,h⟩|⟨_,h⟩
    . obtain rfl:=Option.some.inj h;exact z
    obtain⟨y,hy,h⟩:=bindS h
    have fy:=ih.E _ _ _ _ hy
    rcases condS h with⟨_,h⟩|⟨_,h⟩
    . obtain rfl:=Option.some.inj h;exact fy
    obtain⟨l1,hl,h⟩:=bindS h
    obtain rfl:=Option.some.inj hl
    obtain⟨l2,hl2,h⟩:=bindS h
    have f2:=fineApp hl2 fo (fineK1 fy)
    obtain⟨_,_,h⟩:=bindS h
    rcases condS h with⟨_,h⟩|⟨_,h⟩
    . obtain rfl:=Option.some.inj h;exact f2.e
    obtain⟨_,_,h⟩:=bindS h
    rcases condS h with⟨_,h⟩|⟨_,h⟩
    . obtain rfl:=Option.some.inj h;exact z
    exact ih.T _ _ _ _ _ _ f2 h
end Go.Sp
