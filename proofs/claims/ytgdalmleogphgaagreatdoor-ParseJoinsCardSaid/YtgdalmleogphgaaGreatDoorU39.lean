/-
  What the lexer's functions answer, in the form that lifted walks use: Tokens, the reference's Tokens, Text.
-/
import Derived.Test.YtgdalmleogphgaaGreatDoorU17
import Derived.Test.YtgdalmleogphgaaGreatDoorU23
import Derived.Test.YtgdalmleogphgaaGreatDoorU27
import Derived.Test.YtgdalmleogphgaaGreatDoorU29
import Derived.Test.YtgdalmleogphgaaGreatDoorU34
import Derived.Test.YtgdalmleogphgaaGreatDoorU38
namespace Go.Proofs.YtgdalmleogphgaaGreatDoor
open Go.RowKit Go.Q Go.Vl Go.Sp Go.Lx
theorem readPlain (src:ByteArray):∃ p e:Nat,((lexPlain src).2=⟨(p:Int),(e:Int)⟩)/\∀ rows' p' e',ReadP src rows' p' e'->rows'=(lexPlain src).1.map row_api_Token/\p'=p/\e'=e:=by
 unfold lexPlain
 by_cases h:65536<src.size
 . rw [if_pos h]
   refine⟨0,2,rfl,fun rows' p' e' h'=>?_⟩
   rcases h' with⟨_,h1,h2,h3⟩|⟨h1,_⟩
   . exact⟨h1,h2,h3⟩
   . omega
 . rw [if_neg h]
   cases ht:Lx.tokens src.data.toList with
   |ok ts =>
    refine⟨0,0,rfl,fun rows' p' e' h'=>?_⟩
    have hg:Lx.Good src.size (skip false (bl src)) ts:=tokens_good ht
    rcases h' with⟨h1,_⟩|⟨_,⟨l',hg',h2,h3,h4⟩|⟨hb',_⟩⟩
    . omega
    . rw [hg'.unique hg] at h2
      refine⟨?_,h3,h4⟩
      rw [h2,List.map_map];rfl
    . exact (hg.notBad hb').elim
   |error x =>
    obtain⟨p,e⟩:=x
    refine⟨p,e,rfl,fun rows' p' e' h'=>?_⟩
    have hb:Lx.Bad src.size (skip false (bl src)) p e:=tokens_bad ht
    rcases h' with⟨h1,_⟩|⟨_,⟨l',hg',_⟩|⟨hb',h2⟩⟩
    . omega
    . exact (hg'.notBad hb).elim
    . have:=hb'.unique hb;exact⟨h2,this.1,this.2⟩
theorem vTokensP (src:ByteArray)(t:List api_Token×api_Problem)(h:lexTokens src=some t):VCp Tryz.prog 43 [tP src] (.tup [hP t.1 row_api_Token,.agg [iP t.2.At,iP t.2.E]]):=by
 obtain rfl:=Option.some.inj h
 obtain⟨p,e,h1,h2⟩:=readPlain src
 rw [h1]
 exact fun σ=>vTokens src _ p e h2
def toRT (t:api_Token):RT:=⟨t.Kind,t.At,t.S.data.toList,t.N⟩
theorem vTextP (l:List api_Token)(t:ByteArray)(h:lexText l=some t):VCp Tryz.prog 37 [hP l row_api_Token] (tP t):=by
 unfold lexText at h
 split at h
 . rename_i hok
   obtain rfl:=Option.some.inj h
   obtain⟨h1,h2,h3,h4⟩:=hok
   have e1:l.map row_api_Token=(l.map toRT).map rtR:=by rw [List.map_map];rfl
   have e2:wordsR (l.map toRT)=l.flatMap wordT:=by unfold wordsR;rw [List.flatMap_map];rfl
   intro σ
   have hp:=vPrint (σ:=σ) (l.map toRT) (by simpa using h1) (fun x hx=>by
    obtain⟨y,hy,rfl⟩:=List.mem_map.1 hx
    exact h2 y hy) (by rw [e2];exact h3) (fun x hx=>by
    obtain⟨y,hy,rfl⟩:=List.mem_map.1 hx
    rcases h4 y hy with h5|h5
    . exact .inl h5
    . exact .inr ⟨hRep,h5⟩) .shared
   rw [<- e1,e2] at hp
   exact hp
 . cases h
end Go.Proofs.YtgdalmleogphgaaGreatDoor
