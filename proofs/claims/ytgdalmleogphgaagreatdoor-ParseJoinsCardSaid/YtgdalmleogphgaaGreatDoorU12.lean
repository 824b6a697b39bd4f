/-
  The reference's parser on two lists of tokens of which one holds the other, later by s, at a depth greater by c. No program.
-/
import Derived.Test.YtgdalmleogphgaaGreatDoorU11
namespace Go.Sp
open Go
structure Sh (L M:List api_Token) (s e:Int):Prop where
 hs:0<=s/\s<=1000000
 he:e<=1000000
 same:∀ k t,k<e->gi L k=some t->∃ t',gi M (k+s)=some t'/\t'.Kind=t.Kind/\t'.S=t.S/\t'.N=t.N
 fin:∀ t,gi L e=some t->t.Kind=5
 top:∀ k t,gi L k=some t->k<=e
theorem level_same {L M:List api_Token}{k k':Int}(l2:List Int):∀ (n:Nat) (l1:List ByteArray) (i:Int),(∀ x∈l1,ref32_sign M k' x=ref32_sign L k x)->ref32_level_l1 n l1 M k' l2 i=ref32_level_l1 n l1 L k l2 i
 |0,l1,i,h=>rfl
 |n+1,l1,i,h=>by
  rw [ref32_level_l1.eq_2,ref32_level_l1.eq_2]
  cases decide (i<(l1.length:Int)) with
  |false=>rfl
  |true =>
   cases e:gi l1 i with
   |none=>rfl
   |some x =>
    simp only [cond_true,Option.bind_some,h x (mem_of_gi e)]
    rw [level_same l2 n l1 _ h]
section
variable {L M:List api_Token} {s e c:Int} (S:Sh L M s e) (hc:0<=c/\c<=1)
include S
end
end Go.Sp
