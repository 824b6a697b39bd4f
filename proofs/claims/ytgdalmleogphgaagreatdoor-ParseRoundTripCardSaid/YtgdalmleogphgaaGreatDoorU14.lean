/-
  The reference's comparison: what is of a fine size is the same as itself; and the forms that the reference reads are of such a size. No program.
-/
import Derived.Test.YtgdalmleogphgaaGreatDoorU11
namespace Go.Sp
open Go
theorem ED {α:Type}{l:List α}{j:Nat}(h:j<l.length):gi l (j:Int)=some l[j]:=by
 unfold gi
 rw [if_pos (by omega),Int.toNat_natCast,List.getElem?_eq_getElem h]
theorem Sv {j m:Nat}(h:j<m)(hm:m<=140737488355328):IntKind.i64.wrap ((j:Int)+1)=((j+1:Nat):Int):=by
 rw [A3]<;>omega
inductive Gb:Af->Prop where
 |mk (f:Af) (ha:f.Args.length<=1340357031955) (hx:∀ a∈f.Args,C8 a.E) (hb:f.Body.length<=1927910799388) (h:∀ x∈f.Body,Gb x):Gb f
def Ga (l:List Af):Prop:=l.length<=1927910799388/\∀ x∈l,Gb x
theorem RX {x y z:List Af}(h:CO 73 x y=some z)(h1:Ga x)(h2:∀ f∈y,Gb f):Ga z:=by
 have hm:=LZ h
 obtain⟨rfl,_⟩:=FU (by decide) h
 refine⟨by omega,fun e he=>?_⟩
 rcases List.mem_append.1 he with he|he
 . exact h1.2 e he
 . exact h2 e he
def Jv (l:List As):Prop:=l.length<=1340357031955/\∀ a∈l,C8 a.E
theorem Qg {x y z:List As}(h:CO 105 x y=some z)(h1:Jv x)(h2:∀ a∈y,C8 a.E):Jv z:=by
 have hm:=LZ h
 obtain⟨rfl,_⟩:=FU (by decide) h
 refine⟨by omega,fun e he=>?_⟩
 rcases List.mem_append.1 he with he|he
 . exact h1.2 e he
 . exact h2 e he
theorem Wr {n:Nat}{l:List Ab}{k:Int}{g:BY}(h:C6 n l k=some g):C8 g.A.E:=by
 have z:∀ {a b d:Int} {c:ByteArray},C8 ⟨a,b,c,[],d⟩:=Of.e
 unfold C6 at h
 obtain⟨_,_,h⟩:=Ae h
 obtain⟨_,_,h⟩:=Ae h
 rcases Ak h with⟨_,h⟩|⟨_,h⟩
 . obtain rfl:=Ac h;exact z
 obtain⟨_,_,h⟩:=Ae h
 rcases Ak h with⟨_,h⟩|⟨_,h⟩
 . obtain rfl:=Ac h;exact z
 obtain⟨_,_,h⟩:=Ae h
 rcases Ak h with⟨_,h⟩|⟨_,h⟩
 . obtain⟨_,_,h⟩:=Ae h
   rcases Ak h with⟨_,h⟩|⟨_,h⟩
   . obtain rfl:=Ac h;exact z
   . obtain rfl:=Ac h;exact z
 obtain⟨x,hx,h⟩:=Ae h
 have fx:=(Ws n).E _ _ _ _ hx
 rcases Ak h with⟨_,h⟩|⟨_,h⟩
 . obtain rfl:=Ac h;exact z
 obtain⟨_,_,h⟩:=Ae h
 rcases Ak h with⟨_,h⟩|⟨_,h⟩
 . obtain rfl:=Ac h;exact z
 . obtain rfl:=Ac h;exact fx
structure Y5 (n:Nat):Prop where
 F:∀ l k d c g,BU n l k d c=some g->Gb g.F
 L1:∀ l x ags d out to c g,Jv ags->Ga out->Be n l x ags d out to c=some g->Gb g.F
 L2:∀ l x c ags to r,Jv ags->AU n l x c ags to=some r->(∀ g,r=.inr g->Gb g.F)/\∀ a to,r=.inl (a,to)->Jv a
theorem Ra:Jv []:=⟨by simp,fun x hx=>by cases hx⟩
theorem Kn:Ga []:=⟨by simp,fun x hx=>by cases hx⟩
theorem TL {ags:List As}{out:List Af}(h1:Jv ags)(h2:Ga out){s:ByteArray}{i:Int}:Gb ⟨s,ags,out,i⟩:=.mk _ h1.1 h1.2 h2.1 h2.2
theorem Xs:∀ n,Y5 n
 |0=>{
  F:=fun l k d c g h=>by simp [BU] at h
  L1:=fun l x ags d out to c g _ _ h=>by simp [Be] at h
  L2:=fun l x c ags to r _ h=>by simp [AU] at h }
 |n+1=>by
  have ih:=Xs n
  have z:∀ {s:ByteArray} {i:Int},Gb ⟨s,[],[],i⟩:=TL Ra Kn
  refine⟨?_,?_,?_⟩
  . intro l k d c g h
    replace h:=(BU.eq_2 (n:=n) _ _ _ _).symm.trans h
    obtain⟨_,_,h⟩:=Ae h
    rcases Ak h with⟨_,h⟩|⟨_,h⟩
    . obtain rfl:=Ac h;exact z
    obtain⟨_,_,h⟩:=Ae h
    rcases Ak h with⟨_,h⟩|⟨_,h⟩
    . obtain rfl:=Ac h;exact z
    obtain⟨y,hy,h⟩:=Ae h
    have h2:=ih.L2 _ _ _ _ _ _ Ra hy
    rcases y with⟨a,to⟩|o
    . exact ih.L1 _ _ _ _ _ _ _ _ (h2.2 _ _ rfl) Kn h
    . obtain rfl:=Ac h
      exact h2.1 _ rfl
  . intro l x ags d out to c g fa fo h
    replace h:=(Be.eq_2 (n:=n) _ _ _ _ _ _ _).symm.trans h
    obtain⟨_,_,h⟩:=Ae h
    rcases Ak h with⟨_,h⟩|⟨_,h⟩
    . obtain rfl:=Ac h;exact TL fa fo
    obtain⟨y,hy,h⟩:=Ae h
    have fy:=ih.F _ _ _ _ _ hy
    rcases Ak h with⟨_,h⟩|⟨_,h⟩
    . obtain rfl:=Ac h;exact fy
    obtain⟨l1,hl,h⟩:=Ae h
    obtain rfl:=Ac hl
    obtain⟨l2,hl2,h⟩:=Ae h
    exact ih.L1 _ _ _ _ _ _ _ _ fa (RX hl2 fo fun f hf=>by obtain rfl:=List.mem_singleton.1 hf;exact fy) h
  . intro l x c ags to r fa h
    replace h:=(AU.eq_2 (n:=n) _ _ _ _ _).symm.trans h
    obtain⟨_,_,h⟩:=Ae h
    rcases Ak h with⟨_,h⟩|⟨_,h⟩
    . obtain rfl:=Ac h
      exact⟨fun g e=>by cases e;exact TL fa Kn,fun _ _ e=>by cases e⟩
    obtain⟨_,_,h⟩:=Ae h
    rcases Ak h with⟨_,h⟩|⟨_,h⟩
    . obtain rfl:=Ac h
      exact⟨fun g e=>(by cases e),fun _ _ e=>by cases e;exact fa⟩
    obtain⟨_,_,h⟩:=Ae h
    obtain⟨_,_,h⟩:=Ae h
    obtain⟨_,_,h⟩:=Ae h
    rcases Ak h with⟨_,h⟩|⟨_,h⟩
    . obtain rfl:=Ac h
      exact⟨fun g e=>by cases e;exact z,fun _ _ e=>by cases e⟩
    rcases Ak h with⟨_,h⟩|⟨_,h⟩
    . obtain rfl:=Ac h
      exact⟨fun g e=>by cases e;exact z,fun _ _ e=>by cases e⟩
    obtain⟨y,hy,h⟩:=Ae h
    rcases Ak h with⟨_,h⟩|⟨_,h⟩
    . obtain rfl:=Ac h
      exact⟨fun g e=>by cases e;exact z,fun _ _ e=>by cases e⟩
    obtain⟨l1,hl,h⟩:=Ae h
    obtain rfl:=Ac hl
    obtain⟨l2,hl2,h⟩:=Ae h
    exact ih.L2 _ _ _ _ _ _ (Qg hl2 fa fun a ha=>by obtain rfl:=List.mem_singleton.1 ha;exact Wr hy) h
end Go.Sp
