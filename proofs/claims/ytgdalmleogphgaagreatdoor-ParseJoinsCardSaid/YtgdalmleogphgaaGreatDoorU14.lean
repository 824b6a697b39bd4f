/-
  What the reference's parser reads in one list of tokens it reads in another one in which they stand, with greater offsets: expressions. No program. What the reference's parser reads in one list of tokens it reads in another one in which they stand, with greater offsets: forms. No program.
-/
import Derived.Test.YtgdalmleogphgaaGreatDoorU13
namespace Go.Sp
open Go
mutual
def shE (q:Int->Int):api_Expr->api_Expr
 |.mk a b c l p=>if a=0 then .mk a b c l p else .mk a b c (shL q l) (q p)
def shL (q:Int->Int):List api_Expr->List api_Expr
 | []=>[]
 |x::l=>shE q x::shL q l
end
def shT (q:Int->Int)(t:api_Token):api_Token:=⟨t.Kind,q t.At,t.S,t.N⟩
def shG (q:Int->Int)(s:Int)(g:ref32_Got):ref32_Got:=⟨shE q g.X,g.To+s,g.E⟩
theorem shE_at {q:Int->Int}{x:api_Expr}(h:x.Op≠0):(shE q x).At=q x.At:=by
 cases x;simp only [shE];rw [if_neg h]
theorem shE_kids {q:Int->Int}{x:api_Expr}(h:x.Op≠0):(shE q x).Kids=shL q x.Kids:=by
 cases x;simp only [shE];rw [if_neg h]
theorem shE_op {q:Int->Int}{x:api_Expr}:(shE q x).Op=x.Op/\(shE q x).N=x.N/\(shE q x).S=x.S:=by
 cases x;simp only [shE];split<;>exact⟨rfl,rfl,rfl⟩
theorem shE_mk {q:Int->Int}{a b p:Int}{c:ByteArray}{l:List api_Expr}(h:a≠0):shE q ⟨a,b,c,l,p⟩=⟨a,b,c,shL q l,q p⟩:=by
 simp only [shE];rw [if_neg h]
theorem eta_E (x:api_Expr):(⟨x.Op,x.N,x.S,x.Kids,x.At⟩:api_Expr)=x:=by cases x;rfl
theorem shL_app (q:Int->Int):∀ x y:List api_Expr,shL q (x++y)=shL q x++shL q y
 | [],y=>rfl
 |a::x,y=>by show shE q a::shL q (x++y)=_;rw [shL_app q x y];rfl
theorem shL_len (q:Int->Int):∀ x:List api_Expr,(shL q x).length=x.length
 | []=>rfl
 |a::x=>by show (shL q x).length+1=_;rw [shL_len q x];rfl
structure Vw (α:Type) where
 to:α->Int
 sh:α->α
 ok:α->Prop
def Gs {α:Type}(v:Vw α)(e k:Int)(r r':Option α):Prop:=∀ g,r=some g->v.ok g/\k<=v.to g/\(v.to g<e->r'=some (v.sh g))
structure Ag (L M:List api_Token) (s e:Int) (q:Int->Int):Prop where
 hs:0<=s/\s<=1000000
 hl:L.length<=1000000
 same:∀ k t,k<e->gi L k=some t->gi M (k+s)=some (shT q t)
section
variable {α β:Type} {v:Vw α} {e k:Int} {r r':Option α}
theorem Gs.ret {g g':α}(h:v.ok g)(hk:k<=v.to g)(hg:g'=v.sh g):Gs v e k (some g) (some g'):=by
 intro g2 h2;cases h2;exact⟨h,hk,fun _=>by rw [hg]⟩
theorem Gs.le {k':Int}(h:Gs v e k r r')(hk:k'<=k):Gs v e k' r r':=by
 intro g hg;obtain⟨a,b,c⟩:=h g hg;exact⟨a,by omega,c⟩
theorem Gs.bind {w:Vw β}{x x':Option β}{K K':β->Option α}(h:Gs w e k x x')(hK:∀ c,w.ok c->k<=w.to c->Gs v e (w.to c) (K c) (K' (w.sh c))):Gs v e k (x.bind K) (x'.bind K'):=by
 intro g hg
 obtain⟨c,hc,hg⟩:=bindS hg
 obtain⟨a,b,h3⟩:=h c hc
 obtain⟨a2,b2,h4⟩:=hK c a b g hg
 refine⟨a2,by omega,fun hn=>?_⟩
 rw [h3 (by omega)];exact h4 hn
theorem Gs.same {x:Option β}{K K':β->Option α}(hK:∀ c,x=some c->Gs v e k (K c) (K' c)):Gs v e k (x.bind K) (x.bind K'):=by
 intro g hg
 obtain⟨c,hc,hg⟩:=bindS hg
 rw [hc];exact hK c hc g hg
theorem Gs.cond {b:Bool}{r2 r2':Option α}(h1:b=true->Gs v e k r r')(h2:b=false->Gs v e k r2 r2'):Gs v e k (bif b then r else r2) (bif b then r' else r2'):=by
 cases b with
 |true=>exact h1 rfl
 |false=>exact h2 rfl
theorem Gs.app {b:Nat}{x y x' y':List β}{K K':List β->Option α}(h1:x'.length=x.length)(h2:y'.length=y.length)(hK:Gs v e k (K (x++y)) (K' (x'++y'))):Gs v e k ((gapp b x y).bind K) ((gapp b x' y').bind K'):=by
 intro g hg
 obtain⟨c,hc,hg⟩:=bindS hg
 have hc2:=gapp_same hc h1 h2
 have:c=x++y:=by
  unfold gapp at hc
  split at hc
  . exact (Option.some.inj hc).symm
  . cases hc
 subst this
 rw [hc2];exact hK g hg
theorem Gs.id (h:Gs v e k r r'):Gs v e k (r.bind fun x=>some x) (r'.bind fun x=>some x):=by
 rw [Option.bind_fun_some,Option.bind_fun_some];exact h
end
section
variable {α:Type} {v:Vw α} {L M:List api_Token} {s e k k':Int} {q:Int->Int} (A:Ag L M s e q)
include A
theorem Gs.tok {K K':api_Token->Option α}(hk:k'<=k)(hK:∀ t,0<=k'->k'<(L.length:Int)->Gs v e k (K t) (K' (shT q t))):Gs v e k ((gi L k').bind K) ((gi M (k'+s)).bind K'):=by
 intro g hg
 obtain⟨t,ht,hg⟩:=bindS hg
 have hr:=(drop_of_gi ht).2
 obtain⟨a,b,c⟩:=hK t hr.1 hr.2 g hg
 refine⟨a,b,fun hn=>?_⟩
 rw [A.same k' t (by omega) ht];exact c hn
theorem Gs.sign {x:ByteArray}{K K':Bool->Option α}(hK:∀ b,0<=k->k<(L.length:Int)->Gs v e k (K b) (K' b)):Gs v e k ((ref32_sign L k x).bind K) ((ref32_sign M (k+s) x).bind K'):=by
 intro g hg
 obtain⟨b,hb,hg⟩:=bindS hg
 obtain⟨t,ht,rfl⟩:=sgn_some hb
 have hr:=(drop_of_gi ht).2
 obtain⟨a,b,c⟩:=hK _ hr.1 hr.2 g hg
 refine⟨a,b,fun hn=>?_⟩
 have h2:=sign_of (s:=x) (A.same k t (by omega) ht)
 rw [show ref32_sign M (k+s) x=some (isS t x) from h2];exact c hn
theorem Gs.first {d:Int}{no:Bool}{K K':Int->Option α}(hK:∀ b,0<=k->k<(L.length:Int)->Gs v e k (K b) (K' b)):Gs v e k ((ref32_first L k d no).bind K) ((ref32_first M (k+s) d no).bind K'):=by
 intro g hg
 obtain⟨b,hb,hg⟩:=bindS hg
 obtain⟨t,ht,rfl⟩:=fst_some hb
 have hr:=(drop_of_gi ht).2
 obtain⟨a,b,c⟩:=hK _ hr.1 hr.2 g hg
 refine⟨a,b,fun hn=>?_⟩
 have h2:=first_of (d:=d) (no:=no) (A.same k t (by omega) ht)
 rw [show ref32_first M (k+s) d no=some (fst t d no) from h2];exact c hn
theorem Gs.begins {K K':Bool->Option α}(hK:∀ b,0<=k->k<(L.length:Int)->Gs v e k (K b) (K' b)):Gs v e k ((ref32_begins L k).bind K) ((ref32_begins M (k+s)).bind K'):=by
 intro g hg
 obtain⟨b,hb,hg⟩:=bindS hg
 obtain⟨t,ht⟩:∃ t,gi L k=some t:=by
  have hb2:=hb
  unfold ref32_begins at hb2
  obtain⟨b1,h1,_⟩:=bindS hb2
  obtain⟨t,ht,_⟩:=sgn_some h1
  exact⟨t,ht⟩
 obtain rfl:b=beg t:=Option.some.inj (hb.symm.trans (rbegins_of ht))
 have hr:=(drop_of_gi ht).2
 obtain⟨a,b,c⟩:=hK _ hr.1 hr.2 g hg
 refine⟨a,b,fun hn=>?_⟩
 have h2:=rbegins_of (A.same k t (by omega) ht)
 rw [show ref32_begins M (k+s)=some (beg t) from h2];exact c hn
theorem Gs.level {n:Nat}{K K':ref32_Level->Option α}(hK:∀ b,0<=k->k<(L.length:Int)->(b.N≠0->b.Op≠0)->Gs v e k (K b) (K' b)):Gs v e k ((ref32_level n L k).bind K) ((ref32_level n M (k+s)).bind K'):=by
 intro g hg
 obtain⟨b,hb,hg⟩:=bindS hg
 obtain⟨t,ht⟩:=level_gi hb
 have hr:=(drop_of_gi ht).2
 have hf:∀ (z:List (ByteArray×Int)) (j:Nat),(findS t z j).N≠0->(findS t z j).Op≠0:=by
  intro z
  induction z with
  |nil=>intro j h;exact absurd rfl h
  |cons x z ih =>
   intro j h
   unfold findS at h ⊢
   split
   . show 7+(j:Int)≠0;omega
   . rename_i h2;rw [if_neg h2] at h;exact ih _ h
 obtain⟨a,b2,c⟩:=hK b hr.1 hr.2 (by rw [level_det ht hb];exact hf _ _) g hg
 refine⟨a,b2,fun hn=>?_⟩
 have e2:ref32_level n M (k+s)=ref32_level n L k:=by
  unfold ref32_level
  simp only [Option.bind_some]
  rw [level_same (L:=L) (k:=k)]
  intro x _
  rw [sign_of ht]
  have h2:=sign_of (s:=x) (A.same k t (by omega) ht)
  exact h2
 rw [e2,hb];exact c hn
end
def vG (q:Int->Int)(s:Int):Vw ref32_Got:=⟨fun g=>g.To,shG q s,fun g=>g.E=0->g.X.Op≠0⟩
def vS (q:Int->Int)(s:Int):Vw ((Int×Int×ByteArray×(List api_Expr)×Int×Int) ⊕ ref32_Got) :=
 ⟨fun r=>match r with|.inl _=>0|.inr g=>g.To,fun r=>match r with|.inl y=>.inl y|.inr g=>.inr (shG q s g),fun r=>match r with|.inl _=>False|.inr g=>g.E=0->g.X.Op≠0⟩
theorem Gs.got {α:Type}{v:Vw α}{q:Int->Int}{s e k:Int}{r r':Option ref32_Got}{K K' F F':ref32_Got->Option α}(h:Gs (vG q s) e k r r')(hF:∀ g:ref32_Got,g.E≠0->k<=g.To->Gs v e g.To (F g) (F' (shG q s g)))
 (hK:∀ X z,X.Op≠0->k<=z->Gs v e z (K ⟨X,z,0⟩) (K' ⟨shE q X,z+s,0⟩)):Gs v e k (r.bind fun g=>bif (g.E != 0) then F g else K g) (r'.bind fun g=>bif (g.E != 0) then F' g else K' g):=by
 refine Gs.bind h fun c oc hc=>?_
 refine Gs.cond (b:=(c.E != 0)) (fun h=>hF c (by simpa using h) hc) (fun h=>?_)
 obtain⟨X,z,w⟩:=c
 have h0:w=0:=by simpa using h
 subst h0
 exact hK X z (oc rfl) hc
theorem Gs.bad {q:Int->Int}{s e k:Int}{g:ref32_Got}(h:g.E≠0)(hk:k<=g.To):Gs (vG q s) e k (some g) (some (shG q s g)):=Gs.ret (fun h0=>absurd h0 h) hk rfl
theorem Gs.err {q:Int->Int}{s e k z:Int}{c:Int}(h:c≠0)(hk:k<=z):Gs (vG q s) e k (some ⟨⟨0,0,⟨#[]⟩,[],0⟩,z,c⟩) (some ⟨⟨0,0,⟨#[]⟩,[],0⟩,z+s,c⟩):=Gs.ret (fun h0=>absurd h0 h) hk rfl
theorem wr1 {k:Int}(h:0<=k)(h2:k<=5000000):IntKind.i64.wrap (k+1)=k+1:=by rw [wrap_id]<;>omega
theorem wr2 {k:Int}(h:0<=k)(h2:k<=5000000):IntKind.i64.wrap (k+2)=k+2:=by rw [wrap_id]<;>omega
theorem ws1 {k s:Int}(h:0<=k)(h2:k<=5000000)(hs:0<=s/\s<=1000000):IntKind.i64.wrap (k+s+1)=k+1+s:=by rw [wrap_id]<;>omega
theorem ws2 {k s:Int}(h:0<=k)(h2:k<=5000000)(hs:0<=s/\s<=1000000):IntKind.i64.wrap (k+s+2)=k+2+s:=by rw [wrap_id]<;>omega
structure SimX (L M:List api_Token) (s e:Int) (q:Int->Int) (n:Nat):Prop where
 fE:∀ k d,Gs (vG q s) e k (ref32_expr n L k d) (ref32_expr n M (k+s) d)
 fB:∀ k v d,1<=v->v<=7->Gs (vG q s) e k (ref32_binary n L k v d) (ref32_binary n M (k+s) v d)
 fL:∀ v x x' d a b o ks to,1<=v->v<=6->a≠0->x'.X.At=q x.X.At->Gs (vS q s) e to (ref32_binary_l1 n L v x d a b o ks to 0) (ref32_binary_l1 n M v x' d a b o (shL q ks) (to+s) 0)
 fM:∀ k d,Gs (vG q s) e k (ref32_minus n L k d) (ref32_minus n M (k+s) d)
 fA:∀ k d,Gs (vG q s) e k (ref32_atom n L k d) (ref32_atom n M (k+s) d)
 fG:∀ k d,Gs (vG q s) e k (ref32_bang n L k d) (ref32_bang n M (k+s) d)
 fS:∀ k d,Gs (vG q s) e (k+2) (ref32_args n L k d) (ref32_args n M (k+s) d)
 fT:∀ d x to out,Gs (vG q s) e to (ref32_args_l1 n L d x to out) (ref32_args_l1 n M d (shT q x) (to+s) (shL q out))
section
variable {L M:List api_Token} {s e:Int} {q:Int->Int} (A:Ag L M s e q)
include A
theorem xE1 {n:Nat}(ih:SimX L M s e q n):∀ k d,Gs (vG q s) e k (ref32_expr (n+1) L k d) (ref32_expr (n+1) M (k+s) d):=by
 intro k d
 have hl:=A.hl
 rw [ref32_expr.eq_2 (n:=n) L,ref32_expr.eq_2 (n:=n) M]
 refine Gs.first A fun w k0 k1=>Gs.cond (fun h=>Gs.err (by simpa using h) (Int.le_refl _)) fun _=>?_
 refine Gs.got (ih.fB _ _ _ (by decide) (by decide)) (fun _ h _=>Gs.bad h (Int.le_refl _)) fun X z hX hz=>?_
 refine Gs.sign A fun b z0 z1=>Gs.cond (fun _=>Gs.ret (fun _=>hX) (Int.le_refl _) rfl) fun _=>?_
 rw [wr1 z0 (by omega),ws1 z0 (by omega) A.hs]
 refine Gs.le (k:=z+1) (Gs.got (ih.fE _ _) (fun _ h _=>Gs.bad h (Int.le_refl _)) fun Y y hY hy=>?_) (by omega)
 refine Gs.sign A fun b y0 y1=>Gs.cond (fun _=>Gs.err (by decide) (Int.le_refl _)) fun _=>?_
 rw [wr1 y0 (by omega),ws1 y0 (by omega) A.hs]
 refine Gs.le (k:=y+1) (Gs.got (ih.fE _ _) (fun _ h _=>Gs.bad h (Int.le_refl _)) fun Z u hZ hu=>?_) (by omega)
 refine Gs.ret (fun _=>(by decide:(20:Int)≠0)) (Int.le_refl _) ?_
 show ref32_Got.mk ⟨20,0,⟨#[]⟩,[shE q X,shE q Y,shE q Z],(shE q X).At⟩ (u+s) 0=⟨shE q ⟨20,0,⟨#[]⟩,[X,Y,Z],X.At⟩,u+s,0⟩
 rw [shE_at hX];rfl
theorem xM1 {n:Nat}(ih:SimX L M s e q n):∀ k d,Gs (vG q s) e k (ref32_minus (n+1) L k d) (ref32_minus (n+1) M (k+s) d):=by
 intro k d
 have hl:=A.hl
 rw [ref32_minus.eq_2 (n:=n) L,ref32_minus.eq_2 (n:=n) M]
 refine Gs.sign A fun b k0 k1=>Gs.cond (fun _=>Gs.id (ih.fA _ _)) fun _=>?_
 rw [wr1 k0 (by omega),ws1 k0 (by omega) A.hs]
 refine Gs.le (k:=k+1) (Gs.first A fun w _ _=>Gs.cond (fun h=>Gs.err (by simpa using h) (Int.le_refl _)) fun _=>?_) (by omega)
 refine Gs.got (ih.fM _ _) (fun _ h _=>Gs.bad h (Int.le_refl _)) fun X z hX hz=>?_
 refine Gs.tok A (by omega) fun t _ _=>?_
 exact Gs.ret (fun _=>of_decide_eq_true rfl) (Int.le_refl _) rfl
theorem xG1 {n:Nat}(ih:SimX L M s e q n):∀ k d,Gs (vG q s) e k (ref32_bang (n+1) L k d) (ref32_bang (n+1) M (k+s) d):=by
 intro k d
 have hl:=A.hl
 rw [ref32_bang.eq_2 (n:=n) L,ref32_bang.eq_2 (n:=n) M]
 refine Gs.sign A fun b k0 k1=>Gs.cond (fun _=>Gs.id (ih.fB _ _ _ (by decide) (by decide))) fun _=>?_
 rw [wr1 k0 (by omega),ws1 k0 (by omega) A.hs]
 refine Gs.le (k:=k+1) (Gs.first A fun w _ _=>Gs.cond (fun h=>Gs.err (by simpa using h) (Int.le_refl _)) fun _=>?_) (by omega)
 refine Gs.got (ih.fG _ _) (fun _ h _=>Gs.bad h (Int.le_refl _)) fun X z hX hz=>?_
 refine Gs.tok A (by omega) fun t _ _=>?_
 exact Gs.ret (fun _=>of_decide_eq_true rfl) (Int.le_refl _) rfl
omit A in
theorem xB1 {n:Nat}(ih:SimX L M s e q n):∀ k v d,1<=v->v<=7->Gs (vG q s) e k (ref32_binary (n+1) L k v d) (ref32_binary (n+1) M (k+s) v d):=by
 intro k v d v1 v7
 rw [ref32_binary.eq_2 (n:=n) L,ref32_binary.eq_2 (n:=n) M]
 refine Gs.cond (fun _=>Gs.id (ih.fM _ _)) fun h6=>Gs.cond (fun _=>Gs.id (ih.fG _ _)) fun _=>?_
 have v6:v<=6:=by simpa using h6
 rw [wr1 (by omega) (by omega)]
 refine Gs.bind (ih.fB _ _ _ (by omega) (by omega)) fun c oc hc=>?_
 obtain⟨X,z,w⟩:=c
 by_cases c0:w=0
 . subst c0
   have hX:=oc rfl
   have hL:=ih.fL v ⟨X,z,0⟩ ⟨shE q X,z+s,0⟩ d X.Op X.N X.S X.Kids z v1 v6 hX (shE_at hX)
   rw [<- shE_kids hX] at hL
   have e1:=(shE_op (q:=q) (x:=X)).1
   have e2:=(shE_op (q:=q) (x:=X)).2.1
   have e3:=(shE_op (q:=q) (x:=X)).2.2
   show Gs (vG q s) e z ((ref32_binary_l1 n L v ⟨X,z,0⟩ d X.Op X.N X.S X.Kids z 0).bind _) ((ref32_binary_l1 n M v ⟨shE q X,z+s,0⟩ d (shE q X).Op (shE q X).N (shE q X).S (shE q X).Kids (z+s) 0).bind _)
   rw [e1,e2,e3]
   refine Gs.bind hL fun y oy hy=>?_
   cases y with
   |inl y=>exact absurd oy id
   |inr g=>exact Gs.ret oy (Int.le_refl _) rfl
 . cases n with
   |zero=>rw [ref32_binary_l1.eq_1];intro g hg;cases hg
   |succ n =>
    show Gs (vG q s) e z ((ref32_binary_l1 (n+1) L v ⟨X,z,w⟩ d X.Op X.N X.S X.Kids z w).bind _) ((ref32_binary_l1 (n+1) M v ⟨shE q X,z+s,w⟩ d (shE q X).Op (shE q X).N (shE q X).S (shE q X).Kids (z+s) w).bind _)
    rw [ref32_binary_l1.eq_2 (n:=n) L,ref32_binary_l1.eq_2 (n:=n) M,show (w == 0)=false by simpa using c0]
    refine Gs.ret (fun h=>absurd h c0) (Int.le_refl _) ?_
    show ref32_Got.mk ⟨(shE q X).Op,(shE q X).N,(shE q X).S,(shE q X).Kids,(shE q X).At⟩ (z+s) w=shG q s ⟨⟨X.Op,X.N,X.S,X.Kids,X.At⟩,z,w⟩
    rw [eta_E,eta_E];rfl
theorem xL1 {n:Nat}(ih:SimX L M s e q n):∀ v x x' d a b o ks to,1<=v->v<=6->a≠0->x'.X.At=q x.X.At->Gs (vS q s) e to (ref32_binary_l1 (n+1) L v x d a b o ks to 0) (ref32_binary_l1 (n+1) M v x' d a b o (shL q ks) (to+s) 0):=by
 intro v x x' d a b o ks to v1 v6 ha hx
 have hl:=A.hl
 rw [ref32_binary_l1.eq_2 (n:=n) L,ref32_binary_l1.eq_2 (n:=n) M]
 simp only [beq_self_eq_true,cond_true]
 refine Gs.level A fun op t0 t1 ho=>Gs.cond (fun _=>Gs.ret (fun _=>ha) (Int.le_refl _) ?_) fun hN=>?_
 . show Sum.inr (ref32_Got.mk ⟨a,b,o,shL q ks,x'.X.At⟩ (to+s) 0)=.inr ⟨shE q ⟨a,b,o,ks,x.X.At⟩,to+s,0⟩
   rw [shE_mk ha,hx]
 have hN2:op.N=v:=by simpa using hN
 have hop:op.Op≠0:=ho (by omega)
 rw [wr1 t0 (by omega),ws1 t0 (by omega) A.hs,wr1 (k:=v) (by omega) (by omega)]
 refine Gs.le (k:=to+1) (Gs.got (ih.fB _ _ _ (by omega) (by omega)) (fun g h hk=>Gs.ret (fun h0=>absurd h0 h) (Int.le_refl _) rfl) fun Y z hY hz=>?_) (by omega)
 have e1:[api_Expr.mk a b o (shL q ks) x'.X.At,shE q Y]=shL q [⟨a,b,o,ks,x.X.At⟩,Y]:=by
  show _=[shE q ⟨a,b,o,ks,x.X.At⟩,shE q Y]
  rw [shE_mk ha,hx]
 simp only [Option.bind_some]
 rw [e1]
 refine Gs.cond (fun _=>Gs.ret (fun _=>hop) (Int.le_refl _) ?_) fun _=>ih.fL _ _ _ _ _ _ _ _ _ v1 v6 hop hx
 show Sum.inr (ref32_Got.mk ⟨op.Op,0,⟨#[]⟩,shL q [⟨a,b,o,ks,x.X.At⟩,Y],x'.X.At⟩ (z+s) 0)=.inr ⟨shE q ⟨op.Op,0,⟨#[]⟩,[⟨a,b,o,ks,x.X.At⟩,Y],x.X.At⟩,z+s,0⟩
 rw [shE_mk hop,hx]
theorem xA1 {n:Nat}(ih:SimX L M s e q n):∀ k d,Gs (vG q s) e k (ref32_atom (n+1) L k d) (ref32_atom (n+1) M (k+s) d):=by
 intro k d
 have hl:=A.hl
 rw [ref32_atom.eq_2 (n:=n) L,ref32_atom.eq_2 (n:=n) M]
 refine Gs.tok A (Int.le_refl _) fun t k0 k1=>Gs.sign A fun b _ _=>?_
 rw [wr1 k0 (by omega),ws1 k0 (by omega) A.hs]
 refine Gs.cond (fun _=>?_) fun _=>?_
 . refine Gs.le (k:=k+1) (Gs.got (ih.fE _ _) (fun _ h _=>Gs.bad h (Int.le_refl _)) fun X z hX hz=>?_) (by omega)
   refine Gs.sign A fun b z0 z1=>Gs.cond (fun _=>Gs.err (by decide) (Int.le_refl _)) fun _=>?_
   rw [show (ref32_Got.mk X z 0).To=z from rfl,show (ref32_Got.mk (shE q X) (z+s) 0).To=z+s from rfl,wr1 z0 (by omega),ws1 z0 (by omega) A.hs]
   exact Gs.ret (fun _=>hX) (by show z<=z+1;omega) rfl
 refine Gs.cond (b:=(t.Kind == 2)) (fun _=>Gs.ret (fun _=>of_decide_eq_true rfl) (by show k<=k+1;omega) rfl) fun _=>?_
 refine Gs.cond (b:=(t.Kind == 3)) (fun _=>Gs.ret (fun _=>of_decide_eq_true rfl) (by show k<=k+1;omega) rfl) fun _=>?_
 refine Gs.cond (b:=(t.Kind != 1)) (fun _=>Gs.err (by decide) (Int.le_refl _)) fun _=>?_
 refine Gs.le (k:=k+1) ?_ (by omega)
 refine Gs.sign A fun b _ _=>Gs.cond (fun _=>Gs.ret (fun _=>of_decide_eq_true rfl) (Int.le_refl _) rfl) fun _=>?_
 exact Gs.le (Gs.id (ih.fS _ _)) (by omega)
theorem xS1 {n:Nat}(ih:SimX L M s e q n):∀ k d,Gs (vG q s) e (k+2) (ref32_args (n+1) L k d) (ref32_args (n+1) M (k+s) d):=by
 intro k d
 have hl:=A.hl
 rw [ref32_args.eq_2 (n:=n) L,ref32_args.eq_2 (n:=n) M]
 refine Gs.tok A (by omega) fun t k0 k1=>?_
 rw [wr2 k0 (by omega),ws2 k0 (by omega) A.hs]
 refine Gs.sign A fun b _ _=>Gs.cond (fun _=>?_) fun _=>ih.fT d t (k+2) []
 rw [wr1 (by omega) (by omega),ws1 (by omega) (by omega) A.hs]
 exact Gs.ret (fun _=>of_decide_eq_true rfl) (by show k+2<=k+2+1;omega) rfl
theorem xT1 {n:Nat}(ih:SimX L M s e q n):∀ d x to out,Gs (vG q s) e to (ref32_args_l1 (n+1) L d x to out) (ref32_args_l1 (n+1) M d (shT q x) (to+s) (shL q out)):=by
 intro d x to out
 have hl:=A.hl
 rw [ref32_args_l1.eq_2 (n:=n) L,ref32_args_l1.eq_2 (n:=n) M]
 refine Gs.first A fun w t0 t1=>?_
 rw [shL_len]
 refine Gs.same fun b _=>Gs.cond (fun _=>Gs.err (by decide) (Int.le_refl _)) fun _=>?_
 refine Gs.got (ih.fE _ _) (fun _ h _=>Gs.bad h (Int.le_refl _)) fun X z hX hz=>?_
 simp only [Option.bind_some]
 refine Gs.app (shL_len _ _) rfl ?_
 rw [show shL q out++[shE q X]=shL q (out++[X]) from (shL_app q out [X]).symm]
 refine Gs.sign A fun b z0 z1=>?_
 rw [wr1 z0 (by omega),ws1 z0 (by omega) A.hs]
 refine Gs.cond (fun _=>Gs.ret (fun _=>of_decide_eq_true rfl) (by show z<=z+1;omega) rfl) fun _=>?_
 refine Gs.sign A fun b _ _=>Gs.cond (fun _=>Gs.err (by decide) (Int.le_refl _)) fun _=>?_
 exact Gs.le (ih.fT _ _ _ _) (by omega)
theorem simXs:∀ n,SimX L M s e q n
 |0=>{
  fE:=fun k d g h=>by cases (ref32_expr.eq_1 _ _ _).symm.trans h
  fB:=fun k v d _ _ g h=>by cases (ref32_binary.eq_1 _ _ _ _).symm.trans h
  fL:=fun v x x' d a b o ks to _ _ _ _ g h=>by cases (ref32_binary_l1.eq_1 _ _ _ _ _ _ _ _ _ _).symm.trans h
  fM:=fun k d g h=>by cases (ref32_minus.eq_1 _ _ _).symm.trans h
  fA:=fun k d g h=>by cases (ref32_atom.eq_1 _ _ _).symm.trans h
  fG:=fun k d g h=>by cases (ref32_bang.eq_1 _ _ _).symm.trans h
  fS:=fun k d g h=>by cases (ref32_args.eq_1 _ _ _).symm.trans h
  fT:=fun d x to out g h=>by cases (ref32_args_l1.eq_1 _ _ _ _ _).symm.trans h }
 |n+1=>by
  have ih:=simXs n
  exact⟨xE1 A ih,xB1 ih,xL1 A ih,xM1 A ih,xA1 A ih,xG1 A ih,xS1 A ih,xT1 A ih⟩
end
end Go.Sp
namespace Go.Sp
open Go
def shA (q:Int->Int)(a:api_Arg):api_Arg:=⟨a.Kind,a.N,a.S,shE q a.E,q a.At⟩
mutual
def shF (q:Int->Int):api_Form->api_Form
 |.mk w as b p=>.mk w (as.map (shA q)) (shFs q b) (q p)
def shFs (q:Int->Int):List api_Form->List api_Form
 | []=>[]
 |x::l=>shF q x::shFs q l
end
theorem shFs_app (q:Int->Int):∀ x y:List api_Form,shFs q (x++y)=shFs q x++shFs q y
 | [],y=>rfl
 |a::x,y=>by show shF q a::shFs q (x++y)=_;rw [shFs_app q x y];rfl
theorem shFs_len (q:Int->Int):∀ x:List api_Form,(shFs q x).length=x.length
 | []=>rfl
 |a::x=>by show (shFs q x).length+1=_;rw [shFs_len q x];rfl
def shR (q:Int->Int)(s:Int)(r:ref32_Arg):ref32_Arg:=if r.E=0 then ⟨shA q r.A,r.To+s,r.E⟩ else ⟨r.A,r.To+s,r.E⟩
def vA (q:Int->Int)(s:Int):Vw ref32_Arg:=⟨fun r=>if r.E=0 then r.To-1 else r.To,shR q s,fun _=>True⟩
def shP (q:Int->Int)(s m:Int)(p:ref32_Part):ref32_Part:=if p.E=0 then ⟨shF q p.F,p.To+s,p.N+m,p.E⟩ else ⟨p.F,p.To+s,p.N,p.E⟩
def vP (q:Int->Int)(s m:Int):Vw ref32_Part:=⟨fun p=>if p.E=0 then p.To-1 else p.To,shP q s m,fun p=>p.E=0->0<=p.N/\p.N<=p.To⟩
def vQ (q:Int->Int)(s m:Int):Vw (((List api_Arg)×Int) ⊕ ref32_Part) :=
 ⟨fun r=>match r with|.inl y=>y.2|.inr p=>(vP q s m).to p,fun r=>match r with|.inl y=>.inl (y.1.map (shA q),y.2+s)|.inr p=>.inr (shP q s m p),
  fun r=>match r with|.inl y=>y.2<=1000000|.inr p=>(vP q s m).ok p⟩
section
variable {L M:List api_Token} {s e m:Int} {q:Int->Int} (A:Ag L M s e q)
include A
theorem xArg (n:Nat)(k:Int):Gs (vA q s) e k (ref32_arg n L k) (ref32_arg n M (k+s)):=by
 have hl:=A.hl
 have bad:∀ {z c:Int},c≠0->Gs (vA q s) e z (some ⟨⟨0,0,⟨#[]⟩,⟨0,0,⟨#[]⟩,[],0⟩,0⟩,z,c⟩) (some ⟨⟨0,0,⟨#[]⟩,⟨0,0,⟨#[]⟩,[],0⟩,0⟩,z+s,c⟩):=by
  intro z c h
  refine Gs.ret trivial ?_ ?_
  . show z<=if c=0 then z-1 else z
    rw [if_neg h];exact Int.le_refl _
  . show _=if c=0 then _ else _
    rw [if_neg h]
 have good:∀ {a:api_Arg} {z y:Int},y<=z-1->Gs (vA q s) e y (some ⟨a,z,0⟩) (some ⟨shA q a,z+s,0⟩):=by
  intro a z y h
  exact Gs.ret trivial (show y<=if (0:Int)=0 then z-1 else z by rw [if_pos rfl];exact h) rfl
 unfold ref32_arg
 refine Gs.tok A (Int.le_refl _) fun t k0 k1=>?_
 rw [wr1 k0 (by omega),wr2 k0 (by omega),ws1 k0 (by omega) A.hs,ws2 k0 (by omega) A.hs]
 refine Gs.same (x:=bif decide (1<=t.Kind) then some (decide (t.Kind<=3)) else some false) fun b _=>Gs.cond (fun _=>good (by omega)) fun _=>?_
 refine Gs.sign A fun b _ _=>Gs.cond (fun _=>good (by omega)) fun _=>?_
 refine Gs.sign A fun b _ _=>Gs.cond (fun _=>?_) fun _=>?_
 . refine Gs.le (k:=k+1) (Gs.tok A (Int.le_refl _) fun u _ _=>Gs.cond (b:=(u.Kind != 2)) (fun _=>bad (by decide)) fun _=>good (by omega)) (by omega)
 refine Gs.le (k:=k+1) (Gs.got ((simXs A n).fE _ _) (fun g h _=>?_) fun X z _ hz=>?_) (by omega)
 . exact bad h
 refine Gs.sign A fun b z0 z1=>Gs.cond (fun _=>bad (by decide)) fun _=>?_
 rw [show (ref32_Got.mk X z 0).To=z from rfl,show (ref32_Got.mk (shE q X) (z+s) 0).To=z+s from rfl,wr1 z0 (by omega),ws1 z0 (by omega) A.hs]
 exact good (by omega)
structure SimF (L M:List api_Token) (s e:Int) (q:Int->Int) (m:Int) (n:Nat):Prop where
 fF:∀ k d c,0<=c->c<=k->Gs (vP q s m) e k (ref32_form n L k d c) (ref32_form n M (k+s) d (c+m))
 f1:∀ x as d fs to c,0<=c->c<=to->Gs (vP q s m) e to (ref32_form_l1 n L x as d fs to c) (ref32_form_l1 n M (shT q x) (as.map (shA q)) d (shFs q fs) (to+s) (c+m))
 f2:∀ x c as to,0<=c->c<=to->Gs (vQ q s m) e to (ref32_form_l2 n L x c as to) (ref32_form_l2 n M (shT q x) (c+m) (as.map (shA q)) (to+s))
variable (hm:0<=m/\(L.length:Int)+m<2000)
include hm
omit A hm in
theorem pbad {k z c:Int}(h:c≠0)(hk:k<=z):Gs (vP q s m) e k (some ⟨⟨⟨#[]⟩,[],[],0⟩,z,0,c⟩) (some ⟨⟨⟨#[]⟩,[],[],0⟩,z+s,0,c⟩):=by
 refine Gs.ret (fun h0=>absurd h0 h) ?_ ?_
 . show k<=if c=0 then z-1 else z
   rw [if_neg h];exact hk
 . show _=if c=0 then _ else _
   rw [if_neg h]
omit A hm in
theorem pgood {f:api_Form}{k z c:Int}(hk:k<=z-1)(h0:0<=c)(h1:c<=z):Gs (vP q s m) e k (some ⟨f,z,c,0⟩) (some ⟨shF q f,z+s,c+m,0⟩) :=
 Gs.ret (fun _=>⟨h0,h1⟩) (show k<=if (0:Int)=0 then z-1 else z by rw [if_pos rfl];exact hk) rfl
omit A hm in
theorem pinr {k:Int}{p p':ref32_Part}(h:Gs (vP q s m) e k (some p) (some p')):Gs (vQ q s m) e k (some (.inr p)) (some (.inr p')):=by
 intro g hg
 cases hg
 obtain⟨a,b,c⟩:=h p rfl
 exact⟨a,b,fun hn=>congrArg some (congrArg Sum.inr (Option.some.inj (c hn)))⟩
theorem yF1 {n:Nat}(ih:SimF L M s e q m n):∀ k d c,0<=c->c<=k->Gs (vP q s m) e k (ref32_form (n+1) L k d c) (ref32_form (n+1) M (k+s) d (c+m)):=by
 intro k d c c0 c1
 have hl:=A.hl
 rw [ref32_form.eq_2 (n:=n) L,ref32_form.eq_2 (n:=n) M]
 refine Gs.tok A (Int.le_refl _) fun t k0 k1=>Gs.cond (b:=(t.Kind != 1)) (fun _=>pbad (by decide) (Int.le_refl _)) fun _=>?_
 rw [decide_eq_false (show ¬ (2000:Int)<=c by omega),decide_eq_false (show ¬ (2000:Int)<=c+m by omega)]
 refine Gs.same fun b _=>Gs.cond (fun _=>pbad (by decide) (Int.le_refl _)) fun _=>?_
 rw [wr1 k0 (by omega),ws1 k0 (by omega) A.hs,wr1 c0 (by omega),ws1 c0 (by omega) ⟨hm.1,by omega⟩]
 refine Gs.le (k:=k+1) (Gs.bind (ih.f2 t c [] (k+1) c0 (by omega)) fun y oy hy=>?_) (by omega)
 cases y with
 |inr p =>
  refine Gs.ret oy (Int.le_refl _) rfl
 |inl y =>
  obtain⟨as,z⟩:=y
  have hz:k+1<=z:=hy
  show Gs (vP q s m) e z (ref32_form_l1 n L t as d [] (IntKind.i64.wrap (z+1)) (c+1)) (ref32_form_l1 n M (shT q t) (as.map (shA q)) d [] (IntKind.i64.wrap (z+s+1)) (c+1+m))
  have hz5:z<=1000000:=oy
  rw [wr1 (by omega) (by omega),ws1 (by omega) (by omega) A.hs]
  exact Gs.le (ih.f1 t as d [] (z+1) (c+1) (by omega) (by omega)) (by omega)
omit hm in
theorem y11 {n:Nat}(ih:SimF L M s e q m n):∀ x as d fs to c,0<=c->c<=to->Gs (vP q s m) e to (ref32_form_l1 (n+1) L x as d fs to c) (ref32_form_l1 (n+1) M (shT q x) (as.map (shA q)) d (shFs q fs) (to+s) (c+m)):=by
 intro x as d fs to c c0 c1
 have hl:=A.hl
 rw [ref32_form_l1.eq_2 (n:=n) L,ref32_form_l1.eq_2 (n:=n) M]
 refine Gs.sign A fun b t0 t1=>Gs.cond (fun _=>?_) fun _=>?_
 . rw [wr1 t0 (by omega),ws1 t0 (by omega) A.hs]
   exact pgood (f:=⟨x.S,as,fs,x.At⟩) (by omega) c0 (by omega)
 refine Gs.bind (ih.fF to _ c c0 c1) fun p op hp=>?_
 obtain⟨f,z,c',w⟩:=p
 by_cases w0:w=0
 . subst w0
   obtain⟨o1,o2⟩:=op rfl
   have hz:to<=z-1:=hp
   show Gs (vP q s m) e (z-1) ((gapp 73 fs [f]).bind fun l2=>ref32_form_l1 n L x as d l2 z c') ((gapp 73 (shFs q fs) [shF q f]).bind fun l2=>ref32_form_l1 n M (shT q x) (as.map (shA q)) d l2 (z+s) (c'+m))
   refine Gs.app (shFs_len _ _) rfl ?_
   rw [show shFs q fs++[shF q f]=shFs q (fs++[f]) from (shFs_app q fs [f]).symm]
   exact Gs.le (ih.f1 _ _ _ _ _ _ o1 o2) (by omega)
 . have e1:(vP q s m).sh ⟨f,z,c',w⟩=⟨f,z+s,c',w⟩:=if_neg w0
   rw [e1]
   refine Gs.cond (b:=(w != 0)) (fun _=>Gs.ret op (Int.le_refl _) e1.symm) fun h=>absurd (by simpa using h) w0
omit hm in
theorem y21 (hm0:0<=m/\m<=1000000){n:Nat}(ih:SimF L M s e q m n):∀ x c as to,0<=c->c<=to->Gs (vQ q s m) e to (ref32_form_l2 (n+1) L x c as to) (ref32_form_l2 (n+1) M (shT q x) (c+m) (as.map (shA q)) (to+s)):=by
 intro x c as to c0 c1
 have hl:=A.hl
 rw [ref32_form_l2.eq_2 (n:=n) L,ref32_form_l2.eq_2 (n:=n) M]
 refine Gs.sign A fun b t0 t1=>Gs.cond (fun _=>?_) fun _=>?_
 . rw [wr1 t0 (by omega),ws1 t0 (by omega) A.hs,wr1 c0 (by omega),ws1 c0 (by omega) hm0]
   exact pinr (pgood (f:=⟨x.S,as,[],x.At⟩) (by omega) (by omega) (by omega))
 refine Gs.sign A fun b _ _=>Gs.cond (fun _=>Gs.ret (show to<=1000000 by omega) (Int.le_refl _) rfl) fun _=>?_
 refine Gs.begins A fun b1 _ _=>Gs.sign A fun b2 _ _=>Gs.same fun b _=>Gs.cond (fun _=>pinr (pbad (by decide) (Int.le_refl _))) fun _=>?_
 rw [List.length_map]
 refine Gs.cond (fun _=>pinr (pbad (by decide) (Int.le_refl _))) fun _=>?_
 refine Gs.bind (xArg A n to) fun r _ hr=>?_
 obtain⟨a,z,w⟩:=r
 by_cases w0:w=0
 . subst w0
   have hz:to<=z-1:=hr
   show Gs (vQ q s m) e (z-1) ((gapp 105 as [a]).bind fun l4=>ref32_form_l2 n L x c l4 z) ((gapp 105 (as.map (shA q)) [shA q a]).bind fun l4=>ref32_form_l2 n M (shT q x) (c+m) l4 (z+s))
   refine Gs.app (List.length_map ..) rfl ?_
   rw [show as.map (shA q)++[shA q a]=(as++[a]).map (shA q) by rw [List.map_append];rfl]
   exact Gs.le (ih.f2 x c (as++[a]) z c0 (by omega)) (by omega)
 . have e1:(vA q s).sh ⟨a,z,w⟩=⟨a,z+s,w⟩:=if_neg w0
   have e2:(vA q s).to ⟨a,z,w⟩=z:=if_neg w0
   rw [e1,e2]
   exact Gs.cond (b:=(w != 0)) (fun _=>pinr (pbad w0 (Int.le_refl _))) fun h=>absurd (by simpa using h) w0
theorem simFs:∀ n,SimF L M s e q m n
 |0=>{
  fF:=fun k d c _ _ g h=>by cases (ref32_form.eq_1 _ _ _ _).symm.trans h
  f1:=fun x as d fs to c _ _ g h=>by cases (ref32_form_l1.eq_1 _ _ _ _ _ _ _).symm.trans h
  f2:=fun x c as to _ _ g h=>by cases (ref32_form_l2.eq_1 _ _ _ _ _).symm.trans h }
 |n+1=>by
  have ih:=simFs n
  exact⟨yF1 A hm ih,y11 A ih,y21 A ⟨hm.1,by omega⟩ ih⟩
end
end Go.Sp
