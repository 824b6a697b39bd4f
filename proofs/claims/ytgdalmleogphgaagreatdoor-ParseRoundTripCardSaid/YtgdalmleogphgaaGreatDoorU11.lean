/-
  What the reference reads is of a size that its comparison can go through: it is the same as itself. No program.
-/
import Derived.Test.YtgdalmleogphgaaGreatDoorU10
namespace Go.Sp
open Go
inductive C8:Aa->Prop where
 |mk (e:Aa) (hl:e.Kids.length<=2165192128543) (h:∀ x∈e.Kids,C8 x):C8 e
def Gv (l:List Aa):Prop:=l.length<=2165192128543/\∀ x∈l,C8 x
theorem Gv.e {l:List Aa}(h:Gv l){a b d:Int}{c:ByteArray}:C8 ⟨a,b,c,l,d⟩:=.mk _ h.1 h.2
theorem C8.k {e:Aa}(h:C8 e):Gv e.Kids:=by cases h with|mk _ h1 h2=>exact⟨h1,h2⟩
theorem Of:Gv []:=⟨by simp,fun x hx=>by cases hx⟩
theorem Qf {a:Aa}(h:C8 a):Gv [a]:=⟨by simp,fun x hx=>by obtain rfl:=List.mem_singleton.1 hx;exact h⟩
theorem TK {a b:Aa}(h:C8 a)(h2:C8 b):Gv [a,b]:=⟨by simp,fun x hx=>by
 rcases List.mem_cons.1 hx with rfl|hx
 . exact h
 . obtain rfl:=List.mem_singleton.1 hx;exact h2⟩
theorem Wp {a b c:Aa}(h:C8 a)(h2:C8 b)(h3:C8 c):Gv [a,b,c]:=⟨by simp,fun x hx=>by
 rcases List.mem_cons.1 hx with rfl|hx
 . exact h
 . exact (TK h2 h3).2 x hx⟩
theorem FU {α:Type}{b:Nat}(hb:1<=b){x y z:List α}(h:CO b x y=some z):z=x++y/\z.length<=140737488355328:=by
 unfold CO at h
 split at h
 . rename_i h1
   obtain rfl:=Ac h
   refine⟨rfl,?_⟩
   rw [List.length_append]
   exact Nat.le_trans (Nat.le_mul_of_pos_right _ hb) h1
 . cases h
theorem LZ {α:Type}{b:Nat}{x y z:List α}(h:CO b x y=some z):z.length*b<=140737488355328:=by
 unfold CO at h
 split at h
 . rename_i h1
   obtain rfl:=Ac h
   rw [List.length_append];exact h1
 . cases h
theorem UM {x y z:List Aa}(h:CO 65 x y=some z)(h1:Gv x)(h2:Gv y):Gv z:=by
 have hm:=LZ h
 obtain⟨rfl,_⟩:=FU (by decide) h
 refine⟨by omega,fun e he=>?_⟩
 rcases List.mem_append.1 he with he|he
 . exact h1.2 e he
 . exact h2.2 e he
structure Y6 (n:Nat):Prop where
 E:∀ l k d g,AI n l k d=some g->C8 g.X
 B:∀ l k v d g,A1 n l k v d=some g->C8 g.X
 L:∀ l v x d a b c e to er r,C8 x.X->Gv e->AF n l v x d a b c e to er=some r->(∀ g,r=.inr g->C8 g.X)/\∀ a b c e to er,r=.inl (a,b,c,e,to,er)->Gv e
 M:∀ l k d g,Bu n l k d=some g->C8 g.X
 A:∀ l k d g,B0 n l k d=some g->C8 g.X
 G:∀ l k d g,BE n l k d=some g->C8 g.X
 S:∀ l k d g,Co n l k d=some g->C8 g.X
 T:∀ l d x to out g,Gv out->B3 n l d x to out=some g->C8 g.X
theorem Ws:∀ n,Y6 n
 |0=>{
  E:=fun l k d g h=>by simp [AI] at h
  B:=fun l k v d g h=>by simp [A1] at h
  L:=fun l v x d a b c e to er r _ _ h=>by simp [AF] at h
  M:=fun l k d g h=>by simp [Bu] at h
  A:=fun l k d g h=>by simp [B0] at h
  G:=fun l k d g h=>by simp [BE] at h
  S:=fun l k d g h=>by simp [Co] at h
  T:=fun l d x to out g _ h=>by simp [B3] at h }
 |n+1=>by
  have ih:=Ws n
  have z:∀ {a b d:Int} {c:ByteArray},C8 ⟨a,b,c,[],d⟩:=Of.e
  refine⟨?_,?_,?_,?_,?_,?_,?_,?_⟩
  . intro l k d g h
    replace h:=(AI.eq_2 (n:=n) _ _ _).symm.trans h
    obtain⟨_,_,h⟩:=Ae h
    rcases Ak h with⟨_,h⟩|⟨_,h⟩
    . obtain rfl:=Ac h;exact z
    obtain⟨c,hc,h⟩:=Ae h
    have fc:=ih.B _ _ _ _ _ hc
    rcases Ak h with⟨_,h⟩|⟨_,h⟩
    . obtain rfl:=Ac h;exact fc
    obtain⟨_,_,h⟩:=Ae h
    rcases Ak h with⟨_,h⟩|⟨_,h⟩
    . obtain rfl:=Ac h;exact fc
    obtain⟨a,ha,h⟩:=Ae h
    have fa:=ih.E _ _ _ _ ha
    rcases Ak h with⟨_,h⟩|⟨_,h⟩
    . obtain rfl:=Ac h;exact fa
    obtain⟨_,_,h⟩:=Ae h
    rcases Ak h with⟨_,h⟩|⟨_,h⟩
    . obtain rfl:=Ac h;exact z
    obtain⟨b,hb,h⟩:=Ae h
    have fb:=ih.E _ _ _ _ hb
    rcases Ak h with⟨_,h⟩|⟨_,h⟩
    . obtain rfl:=Ac h;exact fb
    obtain⟨l1,hl,h⟩:=Ae h
    obtain rfl:=Ac hl
    obtain rfl:=Ac h
    exact (Wp fc fa fb).e
  . intro l k v d g h
    replace h:=(A1.eq_2 (n:=n) _ _ _ _).symm.trans h
    rcases Ak h with⟨_,h⟩|⟨_,h⟩
    . obtain⟨m,hm,h⟩:=Ae h
      obtain rfl:=Ac h
      exact ih.M _ _ _ _ hm
    rcases Ak h with⟨_,h⟩|⟨_,h⟩
    . obtain⟨m,hm,h⟩:=Ae h
      obtain rfl:=Ac h
      exact ih.G _ _ _ _ hm
    obtain⟨x,hx,h⟩:=Ae h
    have fx:=ih.B _ _ _ _ _ hx
    obtain⟨y,hy,h⟩:=Ae h
    have hL:=ih.L _ _ _ _ _ _ _ _ _ _ _ fx fx.k hy
    rcases y with⟨a,b,c,e,to,er⟩|o
    . obtain rfl:=Ac h
      exact (hL.2 _ _ _ _ _ _ rfl).e
    . obtain rfl:=Ac h
      exact hL.1 _ rfl
  . intro l v x d a b c e to er r fx fe h
    replace h:=(AF.eq_2 (n:=n) _ _ _ _ _ _ _ _ _ _).symm.trans h
    rcases Ak h with⟨_,h⟩|⟨_,h⟩
    . obtain⟨op,_,h⟩:=Ae h
      rcases Ak h with⟨_,h⟩|⟨_,h⟩
      . obtain rfl:=Ac h
        exact⟨fun g e2=>by cases e2;exact fe.e,fun _ _ _ _ _ _ e2=>by cases e2⟩
      obtain⟨y,hy,h⟩:=Ae h
      have fy:=ih.B _ _ _ _ _ hy
      rcases Ak h with⟨_,h⟩|⟨_,h⟩
      . obtain rfl:=Ac h
        exact⟨fun g e2=>by cases e2;exact fy,fun _ _ _ _ _ _ e2=>by cases e2⟩
      obtain⟨l1,hl,h⟩:=Ae h
      obtain rfl:=Ac hl
      have f2:Gv [Aa.mk a b c e x.X.At,y.X]:=TK fe.e fy
      rcases Ak h with⟨_,h⟩|⟨_,h⟩
      . obtain rfl:=Ac h
        exact⟨fun g e2=>by cases e2;exact f2.e,fun _ _ _ _ _ _ e2=>by cases e2⟩
      exact ih.L _ _ _ _ _ _ _ _ _ _ _ fx f2 h
    . obtain rfl:=Ac h
      exact⟨fun g e2=>(by cases e2),fun a' b' c' e' to' er' e2=>by
       have:=Sum.inl.inj e2
       simp only [Prod.mk.injEq] at this
       rw [<- this.2.2.2.1];exact fe⟩
  . intro l k d g h
    replace h:=(Bu.eq_2 (n:=n) _ _ _).symm.trans h
    obtain⟨_,_,h⟩:=Ae h
    rcases Ak h with⟨_,h⟩|⟨_,h⟩
    . obtain⟨m,hm,h⟩:=Ae h
      obtain rfl:=Ac h
      exact ih.A _ _ _ _ hm
    obtain⟨_,_,h⟩:=Ae h
    rcases Ak h with⟨_,h⟩|⟨_,h⟩
    . obtain rfl:=Ac h;exact z
    obtain⟨x,hx,h⟩:=Ae h
    have fx:=ih.M _ _ _ _ hx
    rcases Ak h with⟨_,h⟩|⟨_,h⟩
    . obtain rfl:=Ac h;exact fx
    obtain⟨_,_,h⟩:=Ae h
    obtain⟨l1,hl,h⟩:=Ae h
    obtain rfl:=Ac hl
    obtain rfl:=Ac h
    exact (Qf fx).e
  . intro l k d g h
    replace h:=(B0.eq_2 (n:=n) _ _ _).symm.trans h
    obtain⟨_,_,h⟩:=Ae h
    obtain⟨_,_,h⟩:=Ae h
    rcases Ak h with⟨_,h⟩|⟨_,h⟩
    . obtain⟨x,hx,h⟩:=Ae h
      have fx:=ih.E _ _ _ _ hx
      rcases Ak h with⟨_,h⟩|⟨_,h⟩
      . obtain rfl:=Ac h;exact fx
      obtain⟨_,_,h⟩:=Ae h
      rcases Ak h with⟨_,h⟩|⟨_,h⟩
      . obtain rfl:=Ac h;exact z
      . obtain rfl:=Ac h;exact fx
    rcases Ak h with⟨_,h⟩|⟨_,h⟩
    . obtain rfl:=Ac h;exact z
    rcases Ak h with⟨_,h⟩|⟨_,h⟩
    . obtain rfl:=Ac h;exact z
    rcases Ak h with⟨_,h⟩|⟨_,h⟩
    . obtain rfl:=Ac h;exact z
    obtain⟨_,_,h⟩:=Ae h
    rcases Ak h with⟨_,h⟩|⟨_,h⟩
    . obtain rfl:=Ac h;exact z
    obtain⟨m,hm,h⟩:=Ae h
    obtain rfl:=Ac h
    exact ih.S _ _ _ _ hm
  . intro l k d g h
    replace h:=(BE.eq_2 (n:=n) _ _ _).symm.trans h
    obtain⟨_,_,h⟩:=Ae h
    rcases Ak h with⟨_,h⟩|⟨_,h⟩
    . obtain⟨m,hm,h⟩:=Ae h
      obtain rfl:=Ac h
      exact ih.B _ _ _ _ _ hm
    obtain⟨_,_,h⟩:=Ae h
    rcases Ak h with⟨_,h⟩|⟨_,h⟩
    . obtain rfl:=Ac h;exact z
    obtain⟨x,hx,h⟩:=Ae h
    have fx:=ih.G _ _ _ _ hx
    rcases Ak h with⟨_,h⟩|⟨_,h⟩
    . obtain rfl:=Ac h;exact fx
    obtain⟨_,_,h⟩:=Ae h
    obtain⟨l1,hl,h⟩:=Ae h
    obtain rfl:=Ac hl
    obtain rfl:=Ac h
    exact (Qf fx).e
  . intro l k d g h
    replace h:=(Co.eq_2 (n:=n) _ _ _).symm.trans h
    obtain⟨_,_,h⟩:=Ae h
    obtain⟨_,_,h⟩:=Ae h
    rcases Ak h with⟨_,h⟩|⟨_,h⟩
    . obtain rfl:=Ac h;exact z
    . exact ih.T _ _ _ _ _ _ Of h
  . intro l d x to out g fo h
    replace h:=(B3.eq_2 (n:=n) _ _ _ _ _).symm.trans h
    obtain⟨_,_,h⟩:=Ae h
    obtain⟨_,_,h⟩:=Ae h
    rcases Ak h with⟨_,h⟩|⟨_,h⟩
    . obtain rfl:=Ac h;exact z
    obtain⟨y,hy,h⟩:=Ae h
    have fy:=ih.E _ _ _ _ hy
    rcases Ak h with⟨_,h⟩|⟨_,h⟩
    . obtain rfl:=Ac h;exact fy
    obtain⟨l1,hl,h⟩:=Ae h
    obtain rfl:=Ac hl
    obtain⟨l2,hl2,h⟩:=Ae h
    have f2:=UM hl2 fo (Qf fy)
    obtain⟨_,_,h⟩:=Ae h
    rcases Ak h with⟨_,h⟩|⟨_,h⟩
    . obtain rfl:=Ac h;exact f2.e
    obtain⟨_,_,h⟩:=Ae h
    rcases Ak h with⟨_,h⟩|⟨_,h⟩
    . obtain rfl:=Ac h;exact z
    exact ih.T _ _ _ _ _ _ f2 h
end Go.Sp
