/-
  The lexer's functions, walked in plain values: next. Plain facts of what is left of a source.
-/
import Derived.Test.YtkcfmlfkfagejaaGreatDoorU29
import Derived.Test.YtkcfmlfkfagejaaGreatDoorU31
import Derived.Test.YtkcfmlfkfagejaaGreatDoorU34
set_option linter.unusedVariables false
set_option linter.unusedSimpArgs false
namespace Go.Proofs.YtkcfmlfkfagejaaGreatDoor
open Go.RowKit Go.Q Go.Lx Go.Vl
set_option maxRecDepth 100000
def Yb:Out->Nat
 |.bad e=>e
 |.ok _ _ _ _=>0
theorem Mk (o:Out):rdR (some o)=.tup [.lit (.bool true),.lit (.int .i64 (Yb o:Int))]:=by cases o<;>rfl
theorem Ml:rdR none=.tup [.lit (.bool false),.lit (.int .i64 0)]:=rfl
theorem KS (src:ByteArray)(p:Nat)(xs:List (List PV))(o:Out):∃ q ys,XY src p xs (some o)=Ka src q ys:=by
 cases o with
 |bad e=>exact⟨p,xs,rfl⟩
 |ok k s v r=>exact⟨_,_,rfl⟩
theorem Vs {r:List UInt8}(h:Ec r=none):sign r=.bad 26:=by
 unfold Ec at h
 split at h
 . rename_i e he
   unfold sign at he ⊢
   split at he
   . cases he
   . rename_i hn
     rw [if_neg hn]
     split at he
     . rfl
     . split at he
       . cases he
       . rename_i hs;rw [if_neg hs]
 . cases h
theorem Aan (src:ByteArray)(p:Nat)(xs:List (List PV))(hp:p<src.size)(hs:src.size<=1000000)(hx:∀ x∈xs,x.length=4)(hl:xs.length<=1000000) :
 VC Tryz.prog 144 [.ptr 0 0] [Ka src p xs] fun x σ'=>x=.ret (.lit (.int .i64 (Yb (Lx.tok ((bl src).drop p)):Int)))/\σ'=[XY src p xs (some (Lx.tok ((bl src).drop p)))]:=by
 have v0:=Aao src p xs hp hs hx hl
 have v1:=XL src p xs hp hs hx hl
 have v2:=Aaj src p xs hp hs hx hl
 have v3:=Aak src p xs hp hs hx hl
 have hdr:=ET src p hp
 obtain⟨R,hR⟩:∃ R,R=Lx.tok ((bl src).drop p):=⟨_,rfl⟩
 rw [<- hR]
 unfold Lx.tok at hR
 rw [hdr] at hR
 simp only at hR
 rw [<- hdr] at hR
 refine VC.intro ⟨[0,2,4,5,6,7,8,9,17],[]⟩ Tryz.func144 rfl follows Aa5 (by rw [Tryz.ntmps144];exact Nat.le_of_ble_eq_true rfl) ?_;refine KN ?_
 repeat (first|apply A0|apply An|apply Ar|apply A1|apply Ap|apply As rfl|apply Ao rfl|apply Al rfl|(refine Af rfl ?_;intro K' hK hP;simp only [go_sem];apply hK;(focus (simp only [go_sem];exact rfl));clear hK hP K'))
 refine Iy [0,2,7,8] 1 (fun i:Nat=>i<=4/\(1<=i->Bw src[p]=false)/\(2<=i->isDigit src[p]=false)/\(3<=i->¬ src[p]=34)/\(4<=i->Ec ((bl src).drop p)=none)) (fun i=>4-i)
  (fun i=>⟨[(0,.ptr 0 0),(2,.lit (.int .i64 0)),(7,.agg [.fno true 166 [],.fno true 167 [],.fno true 168 [],.fno true 169 []]),(8,.lit (.int .i64 (i:Int)))],[Ka src p xs]⟩) 0 (Nat.le_refl _) ?_ ⟨by omega,fun h=>by omega,fun h=>by omega,fun h=>by omega,fun h=>by omega⟩ ?_
 . exact rfl
 rintro i ⟨h1,h2,h3,h4,h5⟩
 rcases (by omega:i=0∨i=1∨i=2∨i=3∨i=4) with rfl|rfl|rfl|rfl|rfl
 . have w1:IntKind.i64.wrap (((0:Nat):Int)+1)=((1:Nat):Int):=by decide
   repeat (first|apply A0|apply An|apply Ar|apply A1|apply Ap|apply As rfl|apply Ao rfl|apply Al rfl|(refine Af rfl ?_;intro K' hK hP;simp only [go_sem];apply hK;(focus (simp only [go_sem];exact rfl));clear hK hP K'))
   refine Af rfl ?_;intro K' hK hP;simp only [go_sem]
   refine⟨⟨by omega,by omega⟩,?_⟩
   apply hK;(focus (simp only [go_sem];exact rfl));clear hK hP K'
   repeat (first|apply A0|apply An|apply Ar|apply A1|apply Ap|apply As rfl|apply Ao rfl|apply Al rfl|(refine Af rfl ?_;intro K' hK hP;simp only [go_sem];apply hK;(focus (simp only [go_sem];exact rfl));clear hK hP K'))
   by_cases hc:Bw src[p]=true
   . rw [if_pos hc] at v0 hR
     rw [<- hR] at v0
     obtain⟨q,ys,hq⟩:=KS src p xs R
     rw [hq,Mk] at v0
     rw [hq]
     refine Af rfl ?_;intro K' hK hP;simp only [go_sem];refine (v0).mono ?_;rintro _ _ ⟨rfl,rfl⟩;simp only [go_sem];apply hK;(focus (simp only [go_sem];exact rfl));clear hK hP K'
     repeat (first|apply A0|apply An|apply Ar|apply A1|apply Ap|apply As rfl|apply Ao rfl|apply Al rfl|(refine Af rfl ?_;intro K' hK hP;simp only [go_sem];apply hK;(focus (simp only [go_sem];exact rfl));clear hK hP K'))
     refine Bq ?_;simp only [go_sem,Ka,Tryz.results144]
   . rw [if_neg hc,Ml] at v0
     refine Af rfl ?_;intro K' hK hP;simp only [go_sem];refine (v0).mono ?_;rintro _ _ ⟨rfl,rfl⟩;simp only [go_sem];apply hK;(focus (simp only [go_sem];exact rfl));clear hK hP K'
     repeat (first|apply A0|apply An|apply Ar|apply A1|apply Ap|apply As rfl|apply Ao rfl|apply Al rfl|(refine Af rfl ?_;intro K' hK hP;simp only [go_sem,w1];apply hK;(focus (simp only [go_sem];exact rfl));clear hK hP K'))
     exact BK 1 rfl ⟨by omega,fun _=>by simpa using hc,fun h=>by omega,fun h=>by omega,fun h=>by omega⟩ (by omega)
 . rw [if_neg (by rw [h2 (by omega)];simp)] at hR
   have w1:IntKind.i64.wrap (((1:Nat):Int)+1)=((2:Nat):Int):=by decide
   repeat (first|apply A0|apply An|apply Ar|apply A1|apply Ap|apply As rfl|apply Ao rfl|apply Al rfl|(refine Af rfl ?_;intro K' hK hP;simp only [go_sem];apply hK;(focus (simp only [go_sem];exact rfl));clear hK hP K'))
   refine Af rfl ?_;intro K' hK hP;simp only [go_sem]
   refine⟨⟨by omega,by omega⟩,?_⟩
   apply hK;(focus (simp only [go_sem];exact rfl));clear hK hP K'
   repeat (first|apply A0|apply An|apply Ar|apply A1|apply Ap|apply As rfl|apply Ao rfl|apply Al rfl|(refine Af rfl ?_;intro K' hK hP;simp only [go_sem];apply hK;(focus (simp only [go_sem];exact rfl));clear hK hP K'))
   by_cases hc:isDigit src[p]=true
   . rw [if_pos hc] at v1 hR
     rw [<- hR] at v1
     obtain⟨q,ys,hq⟩:=KS src p xs R
     rw [hq,Mk] at v1
     rw [hq]
     refine Af rfl ?_;intro K' hK hP;simp only [go_sem];refine (v1).mono ?_;rintro _ _ ⟨rfl,rfl⟩;simp only [go_sem];apply hK;(focus (simp only [go_sem];exact rfl));clear hK hP K'
     repeat (first|apply A0|apply An|apply Ar|apply A1|apply Ap|apply As rfl|apply Ao rfl|apply Al rfl|(refine Af rfl ?_;intro K' hK hP;simp only [go_sem];apply hK;(focus (simp only [go_sem];exact rfl));clear hK hP K'))
     refine Bq ?_;simp only [go_sem,Ka,Tryz.results144]
   . rw [if_neg hc,Ml] at v1
     refine Af rfl ?_;intro K' hK hP;simp only [go_sem];refine (v1).mono ?_;rintro _ _ ⟨rfl,rfl⟩;simp only [go_sem];apply hK;(focus (simp only [go_sem];exact rfl));clear hK hP K'
     repeat (first|apply A0|apply An|apply Ar|apply A1|apply Ap|apply As rfl|apply Ao rfl|apply Al rfl|(refine Af rfl ?_;intro K' hK hP;simp only [go_sem,w1];apply hK;(focus (simp only [go_sem];exact rfl));clear hK hP K'))
     exact BK 2 rfl ⟨by omega,fun _=>h2 (by omega),fun _=>by simpa using hc,fun h=>by omega,fun h=>by omega⟩ (by omega)
 . rw [if_neg (by rw [h2 (by omega)];simp)] at hR;rw [if_neg (by rw [h3 (by omega)];simp)] at hR
   have w1:IntKind.i64.wrap (((2:Nat):Int)+1)=((3:Nat):Int):=by decide
   repeat (first|apply A0|apply An|apply Ar|apply A1|apply Ap|apply As rfl|apply Ao rfl|apply Al rfl|(refine Af rfl ?_;intro K' hK hP;simp only [go_sem];apply hK;(focus (simp only [go_sem];exact rfl));clear hK hP K'))
   refine Af rfl ?_;intro K' hK hP;simp only [go_sem]
   refine⟨⟨by omega,by omega⟩,?_⟩
   apply hK;(focus (simp only [go_sem];exact rfl));clear hK hP K'
   repeat (first|apply A0|apply An|apply Ar|apply A1|apply Ap|apply As rfl|apply Ao rfl|apply Al rfl|(refine Af rfl ?_;intro K' hK hP;simp only [go_sem];apply hK;(focus (simp only [go_sem];exact rfl));clear hK hP K'))
   by_cases hc:src[p]=34
   . rw [if_pos hc] at v2 hR
     rw [<- hR] at v2
     obtain⟨q,ys,hq⟩:=KS src p xs R
     rw [hq,Mk] at v2
     rw [hq]
     refine Af rfl ?_;intro K' hK hP;simp only [go_sem];refine (v2).mono ?_;rintro _ _ ⟨rfl,rfl⟩;simp only [go_sem];apply hK;(focus (simp only [go_sem];exact rfl));clear hK hP K'
     repeat (first|apply A0|apply An|apply Ar|apply A1|apply Ap|apply As rfl|apply Ao rfl|apply Al rfl|(refine Af rfl ?_;intro K' hK hP;simp only [go_sem];apply hK;(focus (simp only [go_sem];exact rfl));clear hK hP K'))
     refine Bq ?_;simp only [go_sem,Ka,Tryz.results144]
   . rw [if_neg hc,Ml] at v2
     refine Af rfl ?_;intro K' hK hP;simp only [go_sem];refine (v2).mono ?_;rintro _ _ ⟨rfl,rfl⟩;simp only [go_sem];apply hK;(focus (simp only [go_sem];exact rfl));clear hK hP K'
     repeat (first|apply A0|apply An|apply Ar|apply A1|apply Ap|apply As rfl|apply Ao rfl|apply Al rfl|(refine Af rfl ?_;intro K' hK hP;simp only [go_sem,w1];apply hK;(focus (simp only [go_sem];exact rfl));clear hK hP K'))
     exact BK 3 rfl ⟨by omega,fun _=>h2 (by omega),fun _=>h3 (by omega),fun _=>hc,fun h=>by omega⟩ (by omega)
 . rw [if_neg (by rw [h2 (by omega)];simp)] at hR;rw [if_neg (by rw [h3 (by omega)];simp)] at hR;rw [if_neg (h4 (by omega))] at hR
   have w1:IntKind.i64.wrap (((3:Nat):Int)+1)=((4:Nat):Int):=by decide
   repeat (first|apply A0|apply An|apply Ar|apply A1|apply Ap|apply As rfl|apply Ao rfl|apply Al rfl|(refine Af rfl ?_;intro K' hK hP;simp only [go_sem];apply hK;(focus (simp only [go_sem];exact rfl));clear hK hP K'))
   refine Af rfl ?_;intro K' hK hP;simp only [go_sem]
   refine⟨⟨by omega,by omega⟩,?_⟩
   apply hK;(focus (simp only [go_sem];exact rfl));clear hK hP K'
   repeat (first|apply A0|apply An|apply Ar|apply A1|apply Ap|apply As rfl|apply Ao rfl|apply Al rfl|(refine Af rfl ?_;intro K' hK hP;simp only [go_sem];apply hK;(focus (simp only [go_sem];exact rfl));clear hK hP K'))
   cases hc:Ec ((bl src).drop p) with
   |some o =>
    have ho:R=o:=by
     rw [hR];unfold Ec at hc
     split at hc
     . cases hc
     . exact Ah hc
    rw [hc,<- ho] at v3
    obtain⟨q,ys,hq⟩:=KS src p xs R
    rw [hq,Mk] at v3
    rw [hq]
    refine Af rfl ?_;intro K' hK hP;simp only [go_sem];refine (v3).mono ?_;rintro _ _ ⟨rfl,rfl⟩;simp only [go_sem];apply hK;(focus (simp only [go_sem];exact rfl));clear hK hP K'
    repeat (first|apply A0|apply An|apply Ar|apply A1|apply Ap|apply As rfl|apply Ao rfl|apply Al rfl|(refine Af rfl ?_;intro K' hK hP;simp only [go_sem];apply hK;(focus (simp only [go_sem];exact rfl));clear hK hP K'))
    refine Bq ?_;simp only [go_sem,Ka,Tryz.results144]
   |none =>
    rw [hc,Ml] at v3
    refine Af rfl ?_;intro K' hK hP;simp only [go_sem];refine (v3).mono ?_;rintro _ _ ⟨rfl,rfl⟩;simp only [go_sem];apply hK;(focus (simp only [go_sem];exact rfl));clear hK hP K'
    repeat (first|apply A0|apply An|apply Ar|apply A1|apply Ap|apply As rfl|apply Ao rfl|apply Al rfl|(refine Af rfl ?_;intro K' hK hP;simp only [go_sem,w1];apply hK;(focus (simp only [go_sem];exact rfl));clear hK hP K'))
    exact BK 4 rfl ⟨by omega,fun _=>h2 (by omega),fun _=>h3 (by omega),fun _=>h4 (by omega),fun _=>rfl⟩ (by omega)
 . rw [if_neg (by rw [h2 (by omega)];simp),if_neg (by rw [h3 (by omega)];simp),if_neg (h4 (by omega))] at hR
   have hb:R=.bad 26:=by rw [hR];exact Vs (h5 (by omega))
   repeat (first|apply A0|apply An|apply Ar|apply A1|apply Ap|apply As rfl|apply Ao rfl|apply Al rfl|(refine Af rfl ?_;intro K' hK hP;simp only [go_sem];apply hK;(focus (simp only [go_sem];exact rfl));clear hK hP K'))
   refine Bq ?_;simp only [go_sem,Ka,Tryz.results144]
   rw [hb]
   exact⟨rfl,rfl⟩
end Go.Proofs.YtkcfmlfkfagejaaGreatDoor
namespace Go.Proofs.YtkcfmlfkfagejaaGreatDoor
open Go.RowKit Go.Q Go.Lx
theorem PG:∀ (n:Nat) (r b:List UInt8),r.length<=n->∀ {e:Nat},text b r=.bad e->e=2∨e=28:=by
 intro n
 induction n with
 |zero =>
  intro r b hr e h
  obtain rfl:=List.eq_nil_of_length_eq_zero (Nat.le_zero.1 hr)
  unfold text at h;split at h<;>(cases h;simp)
 |succ n ih =>
  intro r b hr e h
  cases r with
  |nil=>unfold text at h;split at h<;>(cases h;simp)
  |cons c r =>
   unfold text at h
   split at h
   . cases h;simp
   . split at h
     . cases h
     . split at h
       . cases r with
         |nil=>cases h;simp
         |cons d r' =>
          simp only at h
          split at h
          . cases h;simp
          . exact ih r' _ (by simp at hr;omega) h
       . split at h
         . cases h;simp
         . exact ih r _ (by simp at hr;omega) h
theorem QM {r:List UInt8}{e:Nat}(h:Lx.tok r=.bad e):e≠0:=by
 unfold Lx.tok at h
 cases r with
 |nil=>cases h;decide
 |cons c r' =>
  simp only at h
  split at h
  . unfold name at h;split at h<;>cases h;decide
  . split at h
    . unfold number at h;simp only at h;split at h<;>cases h;decide
    . split at h
      . rcases PG _ _ _ (Nat.le_refl _) h with rfl|rfl<;>decide
      . unfold sign at h
        split at h
        . cases h
        . simp only at h
          split at h<;>cases h;decide
theorem VZ {l u t:List UInt8}(h:l=u++t):l.drop (l.length-t.length)=t/\l.length-t.length<=l.length:=by
 subst h
 rw [List.length_append,show u.length+t.length-t.length=u.length by omega,List.drop_left]
 exact⟨rfl,by omega⟩
theorem UD (s:ByteArray)(i:Nat){u t:List UInt8}(h:(bl s).drop i=u++t):(bl s).drop (s.size-t.length)=t/\s.size-t.length<=s.size:=by
 have e:bl s=((bl s).take i++u)++t:=by rw [List.append_assoc,<- h,List.take_append_drop]
 have:=VZ e
 rw [CF] at this
 exact this
theorem U9 (s:ByteArray)(i:Nat):(bl s).drop (s.size-(skip false ((bl s).drop i)).length)=skip false ((bl s).drop i)/\s.size-(skip false ((bl s).drop i)).length<=s.size:=by
 obtain⟨u,hu⟩:=GW false ((bl s).drop i)
 exact UD s i hu
def P2 (n:Nat)(r0:List UInt8)(l:List Tok)(r:List UInt8):Prop:=(∀ l',Lx.Good n r l'->Lx.Good n r0 (l++l'))/\∀ q e,Lx.Bad n r q e->Lx.Bad n r0 q e
theorem P2.nil (n:Nat)(r0:List UInt8):P2 n r0 [] r0:=⟨fun _ h=>h,fun _ _ h=>h⟩
theorem P2.cons {n:Nat}{r0 r s t:List UInt8}{l:List Tok}{k v:Nat}(h:P2 n r0 l r)(ht:Lx.tok r=.ok k s v t):P2 n r0 (l++[⟨k,n-r.length,s,v⟩]) (skip false t) :=
 ⟨fun l' hg=>by rw [List.append_assoc];exact h.1 _ (.cons ht hg),fun q e hb=>h.2 q e (.later ht hb)⟩
end Go.Proofs.YtkcfmlfkfagejaaGreatDoor
