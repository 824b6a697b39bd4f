/-
  What the reference's parser reads in one list of tokens it reads in the other, too, or it is too deep there. No program.
-/
import Derived.Test.YtgdalmleogphgaaGreatDoorU12
namespace Go.Sp
open Go
theorem Tq {n:Nat}{L:List Ab}{k:Int}{r:BH}(h:EZ n L k=some r):∃ t,gi L k=some t:=by
 unfold EZ at h
 cases n with
 |zero=>cases h
 |succ n =>
  simp only [Option.bind_some] at h
  obtain⟨y,hy,_⟩:=Ae h
  replace hy:=(Cr.eq_2 (n:=n) _ _ _ _ _).symm.trans hy
  rcases Ak hy with⟨_,hy⟩|⟨h2,_⟩
  . obtain⟨x,_,hy⟩:=Ae hy
    obtain⟨b,hb,_⟩:=Ae hy
    obtain⟨t,ht,_⟩:=Cq hb
    exact⟨t,ht⟩
  . cases h2
theorem Qi {n:Nat}{L:List Ab}{k d:Int}{g:A0}(h:AI n L k d=some g)(hg:g.E=0):Dr L k d true=some 0:=by
 cases n with
 |zero=>cases (AI.eq_1 _ _ _).symm.trans h
 |succ n =>
  replace h:=(AI.eq_2 (n:=n) _ _ _).symm.trans h
  obtain⟨v,hv,h⟩:=Ae h
  rcases Ak h with⟨hb,h⟩|⟨hb,h⟩
  . obtain rfl:=Ac h;rw [show v=0 from hg] at hb;cases hb
  . obtain rfl:v=0:=by simpa using hb
    exact hv
end Go.Sp
