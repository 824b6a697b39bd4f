/-
  What the reference's parser reads in one list of tokens it reads in the other, too, or it is too deep there. No program.
-/
import Derived.Test.YtgdalmleogphgaaGreatDoorU12
namespace Go.Sp
open Go
theorem gapp_same {α:Type}{b:Nat}{x y z x' y':List α}(h:gapp b x y=some z)(h1:x'.length=x.length)(h2:y'.length=y.length):gapp b x' y'=some (x'++y'):=by
 unfold gapp at h ⊢
 split at h
 . rename_i h3;rw [if_pos (by rw [h1,h2];exact h3)]
 . cases h
theorem level_gi {n:Nat}{L:List api_Token}{k:Int}{r:ref32_Level}(h:ref32_level n L k=some r):∃ t,gi L k=some t:=by
 unfold ref32_level at h
 cases n with
 |zero=>cases h
 |succ n =>
  simp only [Option.bind_some] at h
  obtain⟨y,hy,_⟩:=bindS h
  replace hy:=(ref32_level_l1.eq_2 (n:=n) _ _ _ _ _).symm.trans hy
  rcases condS hy with⟨_,hy⟩|⟨h2,_⟩
  . obtain⟨x,_,hy⟩:=bindS hy
    obtain⟨b,hb,_⟩:=bindS hy
    obtain⟨t,ht,_⟩:=sgn_some hb
    exact⟨t,ht⟩
  . cases h2
section
variable {L M:List api_Token} {s e c:Int} (S:Sh L M s e) (hc:0<=c/\c<=9)
include S hc
end
end Go.Sp
