/-
  What tokens a source has, but for offsets: sources put together. No program.
-/
import Derived.Test.YtgdalmleogphgaaGreatDoorU22
import Derived.Test.YtgdalmleogphgaaGreatDoorU23
namespace Go.Sp
open Go
def Rd (r:List UInt8)(cs:List (Nat×List UInt8×Nat)):Prop :=
 ∀ n,r.length<=n->∃ l0,Lx.Good n (Lx.skip false r) (l0++[⟨5,n,[],0⟩])/\l0.map Lx.Tok.core=cs
theorem rd_good {n:Nat}{r:List UInt8}{l0:List Lx.Tok}{u:Lx.Tok}(h:Lx.Good n (Lx.skip false r) (l0++[u])):Rd r (l0.map Lx.Tok.core):=by
 intro n' _
 obtain⟨l',h1,h2⟩:=h.re n'
 obtain⟨l1,rfl,h3⟩:=h1.last
 refine⟨l1,h1,?_⟩
 rw [List.map_append,List.map_append] at h2
 exact (List.append_inj' h2 rfl).1
theorem rd_of {r:List UInt8}{ts:List Lx.Tok}(h:Lx.tokens r=.ok ts):∃ l0,ts=l0++[⟨5,r.length,[],0⟩]/\Rd r (l0.map Lx.Tok.core):=by
 have g:=Lx.tokens_good h
 obtain⟨l0,rfl,_⟩:=g.last
 exact⟨l0,rfl,rd_good g⟩
end Go.Sp
