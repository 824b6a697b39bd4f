/-
  The lexer's functions, walked in plain values: next.
-/
import Derived.Test.YtkcfmlfkfagejaaGreatDoorU34
set_option linter.unusedVariables false
set_option linter.unusedSimpArgs false
namespace Go.Proofs.YtkcfmlfkfagejaaGreatDoor
open Go.RowKit Go.Q Go.Lx Go.Vl
set_option maxRecDepth 100000
def X4:Out->Nat
 |.bad e=>e
 |.ok _ _ _ _=>0
theorem Lu (o:Out):ZO (some o)=.tup [.lit (.bool true),.lit (.int .i64 (X4 o:Int))]:=by cases o<;>rfl
theorem Lv:ZO none=.tup [.lit (.bool false),.lit (.int .i64 0)]:=rfl
theorem Kn (src:ByteArray)(p:Nat)(xs:List (List PV))(o:Out):∃ q ys,Xy src p xs (some o)=J3 src q ys:=by
 cases o with
 |bad e=>exact⟨p,xs,rfl⟩
 |ok k s v r=>exact⟨_,_,rfl⟩
theorem Ux {r:List UInt8}(h:Ea r=none):sign r=.bad 26:=by
 unfold Ea at h
 split at h
 . rename_i e he
   unfold sign at he ⊢
   split at he
   . cases he
   . rename_i hn
     rw [if_neg hn]
     split at he
     . rfl
     . split at he
       . cases he
       . rename_i hs;rw [if_neg hs]
 . cases h
theorem Aaa (src:ByteArray)(p:Nat)(xs:List (List PV))(hp:p<src.size)(hs:src.size<=1000000)(hx:∀ x∈xs,x.length=4)(hl:xs.length<=1000000) :
 VC Tryz.prog 144 [.ptr 0 0] [J3 src p xs] fun x σ'=>x=.ret (.lit (.int .i64 (X4 (Lx.tok ((bl src).drop p)):Int)))/\σ'=[Xy src p xs (some (Lx.tok ((bl src).drop p)))]:=by
 have v0:=Aab src p xs hp hs hx hl
 have v1:=Xl src p xs hp hs hx hl
 have v2:=ZW src p xs hp hs hx hl
 have v3:=ZX src p xs hp hs hx hl
 have hdr:=Fw src p hp
 obtain⟨R,hR⟩:∃ R,R=Lx.tok ((bl src).drop p):=⟨_,rfl⟩
 rw [<- hR]
 unfold Lx.tok at hR
 rw [hdr] at hR
 simp only at hR
 rw [<- hdr] at hR
 refine VC.intro ⟨[0,2,4,5,6,7,8,9,17],[]⟩ Tryz.func144 rfl follows Aa3 (by rw [Tryz.ntmps144];exact Nat.le_of_ble_eq_true rfl) ?_;refine Ki ?_
 repeat (first|apply A3|apply Aq|apply Ax|apply A4|apply As|apply Ay rfl|apply Ar rfl|apply An rfl|(refine Ah rfl ?_;intro K' hK hP;simp only [go_sem];apply hK;(focus (simp only [go_sem];exact rfl));clear hK hP K'))
 refine HL [0,2,7,8] 1 (fun i:Nat=>i<=4/\(1<=i->isLetter src[p]=false)/\(2<=i->isDigit src[p]=false)/\(3<=i->¬ src[p]=34)/\(4<=i->Ea ((bl src).drop p)=none)) (fun i=>4-i)
  (fun i=>⟨[(0,.ptr 0 0),(2,.lit (.int .i64 0)),(7,.agg [.fno true 166 [],.fno true 167 [],.fno true 168 [],.fno true 169 []]),(8,.lit (.int .i64 (i:Int)))],[J3 src p xs]⟩) 0 (Nat.le_refl _) ?_ ⟨by omega,fun h=>by omega,fun h=>by omega,fun h=>by omega,fun h=>by omega⟩ ?_
 . exact rfl
 rintro i ⟨h1,h2,h3,h4,h5⟩
 rcases (by omega:i=0∨i=1∨i=2∨i=3∨i=4) with rfl|rfl|rfl|rfl|rfl
 . have w1:IntKind.i64.wrap (((0:Nat):Int)+1)=((1:Nat):Int):=by decide
   repeat (first|apply A3|apply Aq|apply Ax|apply A4|apply As|apply Ay rfl|apply Ar rfl|apply An rfl|(refine Ah rfl ?_;intro K' hK hP;simp only [go_sem];apply hK;(focus (simp only [go_sem];exact rfl));clear hK hP K'))
   refine Ah rfl ?_;intro K' hK hP;simp only [go_sem]
   refine⟨⟨by omega,by omega⟩,?_⟩
   apply hK;(focus (simp only [go_sem];exact rfl));clear hK hP K'
   repeat (first|apply A3|apply Aq|apply Ax|apply A4|apply As|apply Ay rfl|apply Ar rfl|apply An rfl|(refine Ah rfl ?_;intro K' hK hP;simp only [go_sem];apply hK;(focus (simp only [go_sem];exact rfl));clear hK hP K'))
   by_cases hc:isLetter src[p]=true
   . rw [if_pos hc] at v0 hR
     rw [<- hR] at v0
     obtain⟨q,ys,hq⟩:=Kn src p xs R
     rw [hq,Lu] at v0
     rw [hq]
     refine Ah rfl ?_;intro K' hK hP;simp only [go_sem];refine (v0).mono ?_;rintro _ _ ⟨rfl,rfl⟩;simp only [go_sem];apply hK;(focus (simp only [go_sem];exact rfl));clear hK hP K'
     repeat (first|apply A3|apply Aq|apply Ax|apply A4|apply As|apply Ay rfl|apply Ar rfl|apply An rfl|(refine Ah rfl ?_;intro K' hK hP;simp only [go_sem];apply hK;(focus (simp only [go_sem];exact rfl));clear hK hP K'))
     refine B8 ?_;simp only [go_sem,J3,Tryz.results144]
   . rw [if_neg hc,Lv] at v0
     refine Ah rfl ?_;intro K' hK hP;simp only [go_sem];refine (v0).mono ?_;rintro _ _ ⟨rfl,rfl⟩;simp only [go_sem];apply hK;(focus (simp only [go_sem];exact rfl));clear hK hP K'
     repeat (first|apply A3|apply Aq|apply Ax|apply A4|apply As|apply Ay rfl|apply Ar rfl|apply An rfl|(refine Ah rfl ?_;intro K' hK hP;simp only [go_sem,w1];apply hK;(focus (simp only [go_sem];exact rfl));clear hK hP K'))
     exact Ca 1 rfl ⟨by omega,fun _=>by simpa using hc,fun h=>by omega,fun h=>by omega,fun h=>by omega⟩ (by omega)
 . rw [if_neg (by rw [h2 (by omega)];simp)] at hR
   have w1:IntKind.i64.wrap (((1:Nat):Int)+1)=((2:Nat):Int):=by decide
   repeat (first|apply A3|apply Aq|apply Ax|apply A4|apply As|apply Ay rfl|apply Ar rfl|apply An rfl|(refine Ah rfl ?_;intro K' hK hP;simp only [go_sem];apply hK;(focus (simp only [go_sem];exact rfl));clear hK hP K'))
   refine Ah rfl ?_;intro K' hK hP;simp only [go_sem]
   refine⟨⟨by omega,by omega⟩,?_⟩
   apply hK;(focus (simp only [go_sem];exact rfl));clear hK hP K'
   repeat (first|apply A3|apply Aq|apply Ax|apply A4|apply As|apply Ay rfl|apply Ar rfl|apply An rfl|(refine Ah rfl ?_;intro K' hK hP;simp only [go_sem];apply hK;(focus (simp only [go_sem];exact rfl));clear hK hP K'))
   by_cases hc:isDigit src[p]=true
   . rw [if_pos hc] at v1 hR
     rw [<- hR] at v1
     obtain⟨q,ys,hq⟩:=Kn src p xs R
     rw [hq,Lu] at v1
     rw [hq]
     refine Ah rfl ?_;intro K' hK hP;simp only [go_sem];refine (v1).mono ?_;rintro _ _ ⟨rfl,rfl⟩;simp only [go_sem];apply hK;(focus (simp only [go_sem];exact rfl));clear hK hP K'
     repeat (first|apply A3|apply Aq|apply Ax|apply A4|apply As|apply Ay rfl|apply Ar rfl|apply An rfl|(refine Ah rfl ?_;intro K' hK hP;simp only [go_sem];apply hK;(focus (simp only [go_sem];exact rfl));clear hK hP K'))
     refine B8 ?_;simp only [go_sem,J3,Tryz.results144]
   . rw [if_neg hc,Lv] at v1
     refine Ah rfl ?_;intro K' hK hP;simp only [go_sem];refine (v1).mono ?_;rintro _ _ ⟨rfl,rfl⟩;simp only [go_sem];apply hK;(focus (simp only [go_sem];exact rfl));clear hK hP K'
     repeat (first|apply A3|apply Aq|apply Ax|apply A4|apply As|apply Ay rfl|apply Ar rfl|apply An rfl|(refine Ah rfl ?_;intro K' hK hP;simp only [go_sem,w1];apply hK;(focus (simp only [go_sem];exact rfl));clear hK hP K'))
     exact Ca 2 rfl ⟨by omega,fun _=>h2 (by omega),fun _=>by simpa using hc,fun h=>by omega,fun h=>by omega⟩ (by omega)
 . rw [if_neg (by rw [h2 (by omega)];simp)] at hR;rw [if_neg (by rw [h3 (by omega)];simp)] at hR
   have w1:IntKind.i64.wrap (((2:Nat):Int)+1)=((3:Nat):Int):=by decide
   repeat (first|apply A3|apply Aq|apply Ax|apply A4|apply As|apply Ay rfl|apply Ar rfl|apply An rfl|(refine Ah rfl ?_;intro K' hK hP;simp only [go_sem];apply hK;(focus (simp only [go_sem];exact rfl));clear hK hP K'))
   refine Ah rfl ?_;intro K' hK hP;simp only [go_sem]
   refine⟨⟨by omega,by omega⟩,?_⟩
   apply hK;(focus (simp only [go_sem];exact rfl));clear hK hP K'
   repeat (first|apply A3|apply Aq|apply Ax|apply A4|apply As|apply Ay rfl|apply Ar rfl|apply An rfl|(refine Ah rfl ?_;intro K' hK hP;simp only [go_sem];apply hK;(focus (simp only [go_sem];exact rfl));clear hK hP K'))
   by_cases hc:src[p]=34
   . rw [if_pos hc] at v2 hR
     rw [<- hR] at v2
     obtain⟨q,ys,hq⟩:=Kn src p xs R
     rw [hq,Lu] at v2
     rw [hq]
     refine Ah rfl ?_;intro K' hK hP;simp only [go_sem];refine (v2).mono ?_;rintro _ _ ⟨rfl,rfl⟩;simp only [go_sem];apply hK;(focus (simp only [go_sem];exact rfl));clear hK hP K'
     repeat (first|apply A3|apply Aq|apply Ax|apply A4|apply As|apply Ay rfl|apply Ar rfl|apply An rfl|(refine Ah rfl ?_;intro K' hK hP;simp only [go_sem];apply hK;(focus (simp only [go_sem];exact rfl));clear hK hP K'))
     refine B8 ?_;simp only [go_sem,J3,Tryz.results144]
   . rw [if_neg hc,Lv] at v2
     refine Ah rfl ?_;intro K' hK hP;simp only [go_sem];refine (v2).mono ?_;rintro _ _ ⟨rfl,rfl⟩;simp only [go_sem];apply hK;(focus (simp only [go_sem];exact rfl));clear hK hP K'
     repeat (first|apply A3|apply Aq|apply Ax|apply A4|apply As|apply Ay rfl|apply Ar rfl|apply An rfl|(refine Ah rfl ?_;intro K' hK hP;simp only [go_sem,w1];apply hK;(focus (simp only [go_sem];exact rfl));clear hK hP K'))
     exact Ca 3 rfl ⟨by omega,fun _=>h2 (by omega),fun _=>h3 (by omega),fun _=>hc,fun h=>by omega⟩ (by omega)
 . rw [if_neg (by rw [h2 (by omega)];simp)] at hR;rw [if_neg (by rw [h3 (by omega)];simp)] at hR;rw [if_neg (h4 (by omega))] at hR
   have w1:IntKind.i64.wrap (((3:Nat):Int)+1)=((4:Nat):Int):=by decide
   repeat (first|apply A3|apply Aq|apply Ax|apply A4|apply As|apply Ay rfl|apply Ar rfl|apply An rfl|(refine Ah rfl ?_;intro K' hK hP;simp only [go_sem];apply hK;(focus (simp only [go_sem];exact rfl));clear hK hP K'))
   refine Ah rfl ?_;intro K' hK hP;simp only [go_sem]
   refine⟨⟨by omega,by omega⟩,?_⟩
   apply hK;(focus (simp only [go_sem];exact rfl));clear hK hP K'
   repeat (first|apply A3|apply Aq|apply Ax|apply A4|apply As|apply Ay rfl|apply Ar rfl|apply An rfl|(refine Ah rfl ?_;intro K' hK hP;simp only [go_sem];apply hK;(focus (simp only [go_sem];exact rfl));clear hK hP K'))
   cases hc:Ea ((bl src).drop p) with
   |some o =>
    have ho:R=o:=by
     rw [hR];unfold Ea at hc
     split at hc
     . cases hc
     . exact Aa hc
    rw [hc,<- ho] at v3
    obtain⟨q,ys,hq⟩:=Kn src p xs R
    rw [hq,Lu] at v3
    rw [hq]
    refine Ah rfl ?_;intro K' hK hP;simp only [go_sem];refine (v3).mono ?_;rintro _ _ ⟨rfl,rfl⟩;simp only [go_sem];apply hK;(focus (simp only [go_sem];exact rfl));clear hK hP K'
    repeat (first|apply A3|apply Aq|apply Ax|apply A4|apply As|apply Ay rfl|apply Ar rfl|apply An rfl|(refine Ah rfl ?_;intro K' hK hP;simp only [go_sem];apply hK;(focus (simp only [go_sem];exact rfl));clear hK hP K'))
    refine B8 ?_;simp only [go_sem,J3,Tryz.results144]
   |none =>
    rw [hc,Lv] at v3
    refine Ah rfl ?_;intro K' hK hP;simp only [go_sem];refine (v3).mono ?_;rintro _ _ ⟨rfl,rfl⟩;simp only [go_sem];apply hK;(focus (simp only [go_sem];exact rfl));clear hK hP K'
    repeat (first|apply A3|apply Aq|apply Ax|apply A4|apply As|apply Ay rfl|apply Ar rfl|apply An rfl|(refine Ah rfl ?_;intro K' hK hP;simp only [go_sem,w1];apply hK;(focus (simp only [go_sem];exact rfl));clear hK hP K'))
    exact Ca 4 rfl ⟨by omega,fun _=>h2 (by omega),fun _=>h3 (by omega),fun _=>h4 (by omega),fun _=>rfl⟩ (by omega)
 . rw [if_neg (by rw [h2 (by omega)];simp),if_neg (by rw [h3 (by omega)];simp),if_neg (h4 (by omega))] at hR
   have hb:R=.bad 26:=by rw [hR];exact Ux (h5 (by omega))
   repeat (first|apply A3|apply Aq|apply Ax|apply A4|apply As|apply Ay rfl|apply Ar rfl|apply An rfl|(refine Ah rfl ?_;intro K' hK hP;simp only [go_sem];apply hK;(focus (simp only [go_sem];exact rfl));clear hK hP K'))
   refine B8 ?_;simp only [go_sem,J3,Tryz.results144]
   rw [hb]
   exact⟨rfl,rfl⟩
end Go.Proofs.YtkcfmlfkfagejaaGreatDoor
