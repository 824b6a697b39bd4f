/-
  The specification's Type, Known and Last, in plain words. No program.
-/
import Derived.Test.YtkcfmlfkfagejaaGreatDoorU18
namespace Go.Sp
open Go
set_option maxRecDepth 100000
theorem Uc:∀ o∈EP,Ud o.kind:=by
 have h:(EP.all fun o=>decide (1<=o.kind/\o.kind<=4))=true:=by kernel_rfl
 rw [List.all_eq_true] at h
 intro o ho
 exact of_decide_eq_true (p:=1<=o.kind/\o.kind<=4) (h o ho)
theorem TW (s:ByteArray)(h:(BD BL s).2=true):Ud (BD BL s).1:=by
 unfold Ud
 unfold BL at h ⊢
 unfold BD at h ⊢
 split
 . decide
 rename_i c1
 rw [if_neg c1] at h
 unfold BD at h ⊢
 split
 . decide
 rename_i c2
 rw [if_neg c2] at h
 unfold BD at h ⊢
 split
 . decide
 rename_i c3
 rw [if_neg c3] at h
 unfold BD at h ⊢
 split
 . decide
 . rename_i c4
   rw [if_neg c4] at h
   cases h
theorem Sh {e:Aa}(h:(AV e).2.2.E=0):Ud (AV e).1/\(AV e).2.2=⟨0,0⟩:=by
 obtain⟨op,num,str,kids,at0⟩:=e
 obtain⟨ts,_,h2⟩:=Q0 h
 rcases h2 with⟨_,_,_,_,hf⟩|⟨_,h3,_,hf⟩|⟨_,_,o,ho,_,_,hf⟩
 . rw [hf];exact⟨⟨by decide,by decide⟩,rfl⟩
 . rw [hf];exact⟨TW str h3,rfl⟩
 . rw [hf];exact⟨Uc o ho,rfl⟩
theorem NW:∀ {l:List Aa} {o:Int×Ab×Au},BY l=.inr o->o.1=0/\o.2.2.E≠0
 | [],o,h=>by rw [BY] at h;cases h
 |e::l,o,h=>by
  rw [BY] at h
  split at h
  . rename_i h1;cases h;exact⟨rfl,h1⟩
  . split at h
    . cases h
    . rename_i h2;cases h;exact NW h2
theorem Uq {e:Aa}(h:(AV e).2.2.E≠0):(AV e).1=0:=by
 obtain⟨op,num,str,kids,at0⟩:=e
 rw [AV] at h ⊢
 by_cases c:op<1∨20<op∨(0<=arity op/\(kids.length:Int)≠arity op)
 . rw [if_pos c]
 rw [if_neg c] at h ⊢
 cases ht:BY kids with
 |inr o=>exact (NW ht).1
 |inl ts =>
  rw [ht] at h
  simp only at h ⊢
  by_cases h1:op=1
  . rw [if_pos h1] at h ⊢
    split
    . rfl
    . rename_i h2;rw [if_neg h2] at h;exact absurd rfl h
  rw [if_neg h1] at h ⊢
  by_cases h2:op=2
  . rw [if_pos h2]
  rw [if_neg h2] at h ⊢
  by_cases h3:op=3
  . rw [if_pos h3] at h ⊢
    split
    . rename_i h4;rw [if_pos h4] at h;exact absurd rfl h
    . rfl
  rw [if_neg h3] at h ⊢
  unfold BA at h ⊢
  cases hp:pick op str ts EP with
  |some o=>rw [hp] at h;exact absurd rfl h
  |none =>
   simp only
   split
   . rfl
   . split<;>rfl
end Go.Sp
