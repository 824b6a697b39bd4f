/-
  The simulation for all large fuel; lists of tokens of which one stands in the other. No program.
-/
import Derived.Test.YtgdalmleogphgaaGreatDoorU20
import Derived.Test.YtgdalmleogphgaaGreatDoorU21
namespace Go.Sp
open Go
theorem gi_nn {α:Type}{l:List α}{k:Int}{t:α}(h:gi l k=some t):∃ j:Nat,k=(j:Int)/\l[j]?=some t/\j<l.length:=by
 have h2:=(drop_of_gi h).2
 obtain⟨j,rfl⟩:∃ j:Nat,k=(j:Int):=⟨k.toNat,by omega⟩
 exact⟨j,rfl,by rw [<- gi_nat];exact h,by omega⟩
end Go.Sp
