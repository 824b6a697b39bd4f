/-
  The reference's parser on two lists of tokens of which one holds the other, later by s, at a depth greater by c. No program.
-/
import Derived.Test.YtgdalmleogphgaaGreatDoorU11
namespace Go.Sp
open Go
mutual
def DY:Aa->Aa
 |.mk a b c l _=>.mk a b c (IL l) 0
def IL:List Aa->List Aa
 | []=>[]
 |x::l=>DY x::IL l
end
theorem Iy:∀ x y:List Aa,IL (x++y)=IL x++IL y
 | [],y=>rfl
 |a::x,y=>by show DY a::IL (x++y)=_;rw [Iy x y];rfl
theorem Q7:∀ x:List Aa,(IL x).length=x.length
 | []=>rfl
 |a::x=>by show (IL x).length+1=_;rw [Q7 x];rfl
theorem Jb {a b d d':Int}{c:ByteArray}{l l':List Aa}(h:IL l'=IL l):DY ⟨a,b,c,l',d'⟩=DY ⟨a,b,c,l,d⟩:=by
 simp only [DY,h]
theorem Q8 {x x':Aa}(h:DY x'=DY x):IL [x']=IL [x]:=by simp only [IL,h]
theorem Vt {x x' y y':Aa}(h:DY x'=DY x)(h2:DY y'=DY y):IL [x',y']=IL [x,y]:=by simp only [IL,h,h2]
theorem WO {x x' y y' z z':Aa}(h:DY x'=DY x)(h2:DY y'=DY y)(h3:DY z'=DY z):IL [x',y',z']=IL [x,y,z]:=by simp only [IL,h,h2,h3]
structure Sh (L M:List Ab) (s e:Int):Prop where
 hs:0<=s/\s<=1000000
 he:e<=1000000
 same:∀ k t,k<e->gi L k=some t->∃ t',gi M (k+s)=some t'/\t'.Kind=t.Kind/\t'.S=t.S/\t'.N=t.N
 fin:∀ t,gi L e=some t->t.Kind=5
 top:∀ k t,gi L k=some t->k<=e
theorem Qa {r:Option A0}{K:A0->Option A0}{g:A0}(h:(r.bind fun g=>bif (g.E != 0) then some g else K g)=some g)(hg:g.E=0) :
 ∃ c,r=some c/\c.E=0/\K c=some g:=by
 obtain⟨c,hc,h⟩:=Ae h
 rcases Ak h with⟨h1,h⟩|⟨h1,h⟩
 . obtain rfl:=Ac h;rw [hg] at h1;cases h1
 . exact⟨c,hc,by simpa using h1,h⟩
theorem Fa {t t':Ab}(h1:t'.Kind=t.Kind)(h2:t'.S=t.S)(x:ByteArray):isS t' x=isS t x:=by unfold isS;rw [h1,h2]
theorem Qc {t:Ab}{d:Int}{no:Bool}(h:fst t d no=0):t.Kind≠5/\d<=30:=by
 unfold fst at h
 split at h
 . cases h
 . rename_i h3
   split at h
   . cases h
   . refine⟨fun h5=>h3 ?_,by omega⟩
     unfold Fh;rw [h5]
     simp
end Go.Sp
