/-
  The reference's parser on two lists of tokens of which one holds the other, later by s, at a depth greater by c. No program.
-/
import Derived.Test.YtgdalmleogphgaaGreatDoorU11
namespace Go.Sp
open Go
mutual
def stE:api_Expr->api_Expr
 |.mk a b c l _=>.mk a b c (stL l) 0
def stL:List api_Expr->List api_Expr
 | []=>[]
 |x::l=>stE x::stL l
end
theorem stL_app:∀ x y:List api_Expr,stL (x++y)=stL x++stL y
 | [],y=>rfl
 |a::x,y=>by show stE a::stL (x++y)=_;rw [stL_app x y];rfl
theorem stL_len:∀ x:List api_Expr,(stL x).length=x.length
 | []=>rfl
 |a::x=>by show (stL x).length+1=_;rw [stL_len x];rfl
theorem stE_parts {x y:api_Expr}(h:stE x=stE y):x.Op=y.Op/\x.N=y.N/\x.S=y.S/\stL x.Kids=stL y.Kids:=by
 cases x;cases y
 simp only [stE,api_Expr.mk.injEq] at h
 exact⟨h.1,h.2.1,h.2.2.1,h.2.2.2.1⟩
theorem stE_mk {a b d d':Int}{c:ByteArray}{l l':List api_Expr}(h:stL l'=stL l):stE ⟨a,b,c,l',d'⟩=stE ⟨a,b,c,l,d⟩:=by
 simp only [stE,h]
theorem stL_1 {x x':api_Expr}(h:stE x'=stE x):stL [x']=stL [x]:=by simp only [stL,h]
theorem stL_2 {x x' y y':api_Expr}(h:stE x'=stE x)(h2:stE y'=stE y):stL [x',y']=stL [x,y]:=by simp only [stL,h,h2]
theorem stL_3 {x x' y y' z z':api_Expr}(h:stE x'=stE x)(h2:stE y'=stE y)(h3:stE z'=stE z):stL [x',y',z']=stL [x,y,z]:=by simp only [stL,h,h2,h3]
def stops:List ByteArray:=⟨#[40]⟩::⟨#[63]⟩::opz.map (·.1)
structure Sh (L M:List api_Token) (s e:Int):Prop where
 hs:0<=s/\s<=1000000
 he:e<=1000000
 same:∀ k t,k<e->gi L k=some t->∃ t',gi M (k+s)=some t'/\t'.Kind=t.Kind/\t'.S=t.S/\t'.N=t.N
 fin:∀ t,gi L e=some t->t.Kind=5
 top:∀ k t,gi L k=some t->k<=e
def Neu (M:List api_Token)(k:Int):Prop:=∃ t,gi M k=some t/\∀ x∈stops,isS t x=false
def Hit (c:Int)(run:Option ref32_Got)(to:Int)(X:api_Expr):Prop:=∃ g,run=some g/\(g.E=2/\c≠0∨g.E=0/\g.To=to/\stE g.X=stE X)
theorem Hit.eq {c:Int}{r r':Option ref32_Got}{to:Int}{X:api_Expr}(e:r'=r)(h:Hit c r to X):Hit c r' to X:=by rw [e];exact h
theorem Hit.deep {c:Int}{g:ref32_Got}{to:Int}{X:api_Expr}(h:g.E=2)(h2:c≠0):Hit c (some g) to X:=⟨g,rfl,.inl ⟨h,h2⟩⟩
theorem Hit.ok {c:Int}{Y X:api_Expr}{to:Int}(h:stE Y=stE X):Hit c (some ⟨Y,to,0⟩) to X:=⟨_,rfl,.inr ⟨rfl,rfl,h⟩⟩
theorem Hit.id {c:Int}{r:Option ref32_Got}{to:Int}{X:api_Expr}(h:Hit c r to X):Hit c (r.bind fun x=>some x) to X:=by
 obtain⟨g,rfl,h⟩:=h;exact⟨g,rfl,h⟩
theorem Hit.bind {c:Int}{r:Option ref32_Got}{K:ref32_Got->Option ref32_Got}{to to2:Int}{X X2:api_Expr}(h:Hit c r to X)
 (k:∀ Y,stE Y=stE X->Hit c (K ⟨Y,to,0⟩) to2 X2):Hit c (r.bind fun g=>bif (g.E != 0) then some g else K g) to2 X2:=by
 obtain⟨g,rfl,⟨h,hc⟩|⟨h1,h2,h3⟩⟩:=h
 . have:(g.E != 0)=true:=by rw [h];rfl
   rw [Option.bind_some,this];exact .deep h hc
 . obtain⟨Y,t,e⟩:=g
   cases h1;cases h2
   exact k Y h3
theorem gotS {r:Option ref32_Got}{K:ref32_Got->Option ref32_Got}{g:ref32_Got}(h:(r.bind fun g=>bif (g.E != 0) then some g else K g)=some g)(hg:g.E=0) :
 ∃ c,r=some c/\c.E=0/\K c=some g:=by
 obtain⟨c,hc,h⟩:=bindS h
 rcases condS h with⟨h1,h⟩|⟨h1,h⟩
 . obtain rfl:=Option.some.inj h;rw [hg] at h1;cases h1
 . exact⟨c,hc,by simpa using h1,h⟩
theorem isS_same {t t':api_Token}(h1:t'.Kind=t.Kind)(h2:t'.S=t.S)(x:ByteArray):isS t' x=isS t x:=by unfold isS;rw [h1,h2]
theorem fst_same {t t':api_Token}(h1:t'.Kind=t.Kind)(h2:t'.S=t.S){d c:Int}{no:Bool}(h:fst t d no=0):fst t' (d+c) no=0∨fst t' (d+c) no=2/\c≠0:=by
 unfold fst beg at h ⊢
 rw [h1,h2]
 split at h
 . cases h
 . rename_i h3
   rw [if_neg h3]
   split at h
   . cases h
   . split
     . exact .inr ⟨rfl,by omega⟩
     . exact .inl rfl
theorem fst_lt {t:api_Token}{d:Int}{no:Bool}(h:fst t d no=0):t.Kind≠5/\d<=30:=by
 unfold fst at h
 split at h
 . cases h
 . rename_i h3
   split at h
   . cases h
   . refine⟨fun h5=>h3 ?_,by omega⟩
     unfold beg;rw [h5]
     simp
theorem level_same {L M:List api_Token}{k k':Int}(l2:List Int):∀ (n:Nat) (l1:List ByteArray) (i:Int),(∀ x∈l1,ref32_sign M k' x=ref32_sign L k x)->ref32_level_l1 n l1 M k' l2 i=ref32_level_l1 n l1 L k l2 i
 |0,l1,i,h=>rfl
 |n+1,l1,i,h=>by
  rw [ref32_level_l1.eq_2,ref32_level_l1.eq_2]
  cases decide (i<(l1.length:Int)) with
  |false=>rfl
  |true =>
   cases e:gi l1 i with
   |none=>rfl
   |some x =>
    simp only [cond_true,Option.bind_some,h x (mem_of_gi e)]
    rw [level_same l2 n l1 _ h]
section
variable {L M:List api_Token} {s e c:Int} (S:Sh L M s e) (hc:0<=c/\c<=1)
include S
theorem Sh.rng {k:Int}{t:api_Token}(h:gi L k=some t):0<=k/\k<=e:=⟨(drop_of_gi h).2.1,S.top _ _ h⟩
theorem Sh.lt {k:Int}{t:api_Token}(h:gi L k=some t)(h5:t.Kind≠5):k<e:=by
 have:=S.top _ _ h
 by_cases h2:k=e
 . subst h2;exact absurd (S.fin _ h) h5
 . omega
theorem Sh.sg {k:Int}{t:api_Token}(h:gi L k=some t)(hk:k<e)(x:ByteArray):ref32_sign M (k+s) x=some (isS t x):=by
 obtain⟨t',h',h1,h2,_⟩:=S.same _ _ hk h
 rw [sign_of h'];exact congrArg some (isS_same h1 h2 x)
theorem Sh.sn {k:Int}{t:api_Token}(h:gi L k=some t)(hk:k<e∨Neu M (e+s))(x:ByteArray)(hx:x∈stops):ref32_sign M (k+s) x=some (isS t x):=by
 by_cases h2:k<e
 . exact S.sg h h2 x
 . obtain rfl:k=e:=by have:=S.top _ _ h;omega
   obtain⟨t',h',hn⟩:=hk.resolve_left h2
   rw [sign_of h']
   have h5:isS t x=false:=by unfold isS;rw [S.fin _ h];rfl
   rw [h5];exact congrArg some (hn x hx)
theorem Sh.fs {k d:Int}{no:Bool}{t:api_Token}(h:gi L k=some t)(h0:fst t d no=0):k<e/\∃ v,ref32_first M (k+s) (d+c) no=some v/\(v=0∨v=2/\c≠0):=by
 have hk:=S.lt h (fst_lt h0).1
 obtain⟨t',h',h1,h2,_⟩:=S.same _ _ hk h
 exact⟨hk,_,first_of h',fst_same h1 h2 h0⟩
theorem Sh.lv {k:Int}{t:api_Token}(h:gi L k=some t)(hk:k<e∨Neu M (e+s))(n:Nat):ref32_level n M (k+s)=ref32_level n L k:=by
 unfold ref32_level
 simp only [Option.bind_some]
 rw [level_same (L:=L) (k:=k)]
 intro x hx
 rw [S.sn h hk x (.tail _ (.tail _ hx)),sign_of h];rfl
end
end Go.Sp
