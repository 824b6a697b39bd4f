/-
  What the lexer's functions answer, in the form that lifted walks use: Tokens, the reference's Tokens, Text.
-/
import Derived.Test.YtgdalmleogphgaaGreatDoorU19
import Derived.Test.YtgdalmleogphgaaGreatDoorU28
import Derived.Test.YtgdalmleogphgaaGreatDoorU35
import Derived.Test.YtgdalmleogphgaaGreatDoorU37
import Derived.Test.YtgdalmleogphgaaGreatDoorU42
import Derived.Test.YtgdalmleogphgaaGreatDoorU46
namespace Go.Proofs.YtgdalmleogphgaaGreatDoor
open Go.RowKit Go.Q Go.Vl Go.Sp Go.Lx
theorem R6 (src:ByteArray):∃ p e:Nat,((CJ src).2=⟨(p:Int),(e:Int)⟩)/\∀ rows' p' e',Um src rows' p' e'->rows'=(CJ src).1.map Ch/\p'=p/\e'=e:=by
 unfold CJ
 by_cases h:65536<src.size
 . rw [if_pos h]
   refine⟨0,2,rfl,fun rows' p' e' h'=>?_⟩
   rcases h' with⟨_,h1,h2,h3⟩|⟨h1,_⟩
   . exact⟨h1,h2,h3⟩
   . omega
 . rw [if_neg h]
   cases ht:Lx.tokens src.data.toList with
   |ok ts =>
    refine⟨0,0,rfl,fun rows' p' e' h'=>?_⟩
    have hg:Lx.Good src.size (skip false (bl src)) ts:=tokens_good ht
    rcases h' with⟨h1,_⟩|⟨_,⟨l',hg',h2,h3,h4⟩|⟨hb',_⟩⟩
    . omega
    . rw [hg'.unique hg] at h2
      refine⟨?_,h3,h4⟩
      rw [h2,List.map_map];rfl
    . exact (hg.notBad hb').elim
   |error x =>
    obtain⟨p,e⟩:=x
    refine⟨p,e,rfl,fun rows' p' e' h'=>?_⟩
    have hb:Lx.Bad src.size (skip false (bl src)) p e:=tokens_bad ht
    rcases h' with⟨h1,_⟩|⟨_,⟨l',hg',_⟩|⟨hb',h2⟩⟩
    . omega
    . exact (hg'.notBad hb).elim
    . have:=hb'.unique hb;exact⟨h2,this.1,this.2⟩
theorem O7 (src:ByteArray)(t:List Ab×Ay)(h:IB src=some t):FC Tryz.prog 43 [tP src] (.tup [hP t.1 Ch,.agg [iP t.2.At,iP t.2.E]]):=by
 obtain rfl:=Ac h
 obtain⟨p,e,h1,h2⟩:=R6 src
 rw [h1]
 exact fun σ=>Ur src _ p e h2
def VL (t:Ab):RT:=⟨t.Kind,t.At,t.S.data.toList,t.N⟩
theorem Sz (l:List Ab)(t:ByteArray)(h:Gr l=some t):FC Tryz.prog 37 [hP l Ch] (tP t):=by
 unfold Gr at h
 split at h
 . rename_i hok
   obtain rfl:=Ac h
   obtain⟨h1,h2,h3,h4⟩:=hok
   have e1:l.map Ch=(l.map VL).map Vv:=by rw [List.map_map];rfl
   have e2:DZ (l.map VL)=l.flatMap Em:=by unfold DZ;rw [List.flatMap_map];rfl
   intro σ
   have hp:=VJ (σ:=σ) (l.map VL) (by simpa using h1) (fun x hx=>by
    obtain⟨y,hy,rfl⟩:=List.mem_map.1 hx
    exact h2 y hy) (by rw [e2];exact h3) (fun x hx=>by
    obtain⟨y,hy,rfl⟩:=List.mem_map.1 hx
    rcases h4 y hy with h5|h5
    . exact .inl h5
    . exact .inr ⟨Yz,h5⟩) .shared
   rw [<- e1,e2] at hp
   exact hp
 . cases h
end Go.Proofs.YtgdalmleogphgaaGreatDoor
