/-
  The lexer's functions, walked in plain values: number.
-/
import Derived.Test.YtkcfmlfkfagejaaGreatDoorU32
set_option linter.unusedVariables false
set_option linter.unusedSimpArgs false
namespace Go.Proofs.YtkcfmlfkfagejaaGreatDoor
open Go.RowKit Go.Q Go.Lx Go.Vl
set_option maxRecDepth 100000
variable {σ:List (List PV)}
theorem T6 {w w':World}(h:w'=w∨∃ t,w'=Lib.bytesWorld w 5 t):Below w.heap.size w w':=by
 rcases h with rfl|⟨t,rfl⟩
 . exact Below.refl _ _
 . exact⟨rfl,rfl,rfl,by rw [Lib.bytesWorld_size];omega,fun j hj=>Lib.bytesWorld_at_old w 5 t j hj⟩
theorem Vu (x:ByteArray)(hs:x.size<=1000000)(v:Int)(h:Lib.atoiAll (bl x)=.ok v):VC Tryz.prog 195 [.lit (.string x)] σ fun y σ'=>y=.ret (.tup [.lit (.int .i64 v),.lit .nilIface])/\σ'=σ :=
 VC.litNil [.string x] _ fun w _=>(Tryz.strconv_Atoi_ok x (by omega) v h w).mono fun _ _ h=>⟨h.1,T6 h.2⟩
theorem Ut (x:ByteArray)(hs:x.size<=1000000)(h:∀ v,Lib.atoiAll (bl x)≠.ok v):∃ r,VC Tryz.prog 195 [.lit (.string x)] σ fun y σ'=>y=.ret (.tup [.lit (.int .i64 r),.ifc])/\σ'=σ:=by
 cases hat:Lib.atoiAll (bl x) with
 | «syntax» =>
  refine⟨0,VC.litErr [.string x] _ fun w hg=>?_⟩
  obtain⟨ev,hev1,hev2⟩:=hg.2.1
  refine (Tryz.strconv_Atoi_syntax x (by omega) hat ev w hev1 hev2).mono ?_
  rintro e wc ⟨NN,rfl,_,_,hbc⟩
  exact⟨⟨_,_,rfl⟩,hbc⟩
 |range =>
  refine⟨Lib.atoiSat (bl x),VC.litErr [.string x] _ fun w hg=>?_⟩
  obtain⟨ev,hev1,hev2⟩:=hg.2.2
  refine (Tryz.strconv_Atoi_range x (by omega) hat ev w hev1 hev2).mono ?_
  rintro e wc ⟨NN,rfl,_,_,hbc⟩
  exact⟨⟨_,_,rfl⟩,hbc⟩
 |ok v=>exact absurd hat (h v)
theorem Yf (c:UInt8):((cls c:Int) != 2) = !isDigit c:=by
 have:=@Ms c
 unfold cls
 cases h1:isLetter c<;>cases h2:isDigit c<;>cases DH c<;>first|rfl|simp_all
theorem TW {src:ByteArray}{p j:Nat}{xs:List (List PV)}{v:Int}(h2:j<=src.size)(hv:v=(v.toNat:Int)) :
 [J3 src j (xs++[[.lit (.int .i64 ((2:Nat):Int)),.lit (.int .i64 (p:Int)),.lit (.string ⟨#[]⟩),.lit (.int .i64 v)]])]=[Xy src p xs (some (.ok 2 [] v.toNat ((bl src).drop j)))]:=by
 show _=[J3 _ _ _]
 rw [List.length_drop,Et,show src.size-(src.size-j)=j by omega]
 unfold Vz
 rw [<- hv]
theorem Xl (src:ByteArray)(p:Nat)(xs:List (List PV))(hp:p<src.size)(hs:src.size<=1000000)(hx:∀ x∈xs,x.length=4)(hl:xs.length<=1000000) :
 VC Tryz.prog 167 [.ptr 0 0] [J3 src p xs] fun x σ'=>x=.ret (ZO (if isDigit src[p] then some (number ((bl src).drop p)) else none))/\σ'=[Xy src p xs (if isDigit src[p] then some (number ((bl src).drop p)) else none)]:=by
 have g1:=(getD_at src p hp).symm
 have e3:=Yf src[p]
 unfold J3
 refine VC.intro ⟨[0,2,3,4,5,6,7,18,52],[]⟩ Tryz.func167 rfl follows Aa0 (by rw [Tryz.ntmps167];exact Nat.le_of_ble_eq_true rfl) ?_;refine Ki ?_
 repeat (first|apply A3|apply Aq|apply Ax|apply A4|apply As|apply Ay rfl|apply Ar rfl|apply An rfl|(refine Ah rfl ?_;intro K' hK hP;simp only [go_sem];apply hK;(focus (simp only [go_sem];exact rfl));clear hK hP K'))
 refine Ah rfl ?_;intro K' hK hP;simp only [go_sem,g1]
 refine⟨⟨by omega,by omega⟩,?_⟩
 refine ((PW src[p])).mono ?_;rintro _ _ ⟨rfl,rfl⟩;simp only [go_sem]
 apply hK;(focus (simp only [go_sem];exact rfl));clear hK hP K'
 cases hL:isDigit src[p] with
 |false =>
  rw [hL] at e3
  refine Ar (by simp only [go_sem,e3]) ?_
  repeat (first|apply A3|apply Aq|apply Ax|apply A4|apply As|apply Ay rfl|apply Ar rfl|apply An rfl|(refine Ah rfl ?_;intro K' hK hP;simp only [go_sem];apply hK;(focus (simp only [go_sem];exact rfl));clear hK hP K'))
  refine B8 ?_;simp only [go_sem,Tryz.results167]
  exact⟨rfl,rfl⟩
 |true =>
  rw [hL] at e3
  refine An (by simp only [go_sem,e3]) ?_
  repeat (first|apply A3|apply Aq|apply Ax|apply A4|apply As|apply Ay rfl|apply Ar rfl|apply An rfl|(refine Ah rfl ?_;intro K' hK hP;simp only [go_sem];apply hK;(focus (simp only [go_sem];exact rfl));clear hK hP K'))
  refine Ah rfl ?_;intro K' hK hP;simp only [go_sem]
  refine (Yq src p xs (Nat.le_of_lt hp) hs).mono ?_
  rintro _ _ ⟨rfl,j,rfl,h1,h2,h3,h4⟩
  simp only [go_sem]
  apply hK;(focus (simp only [go_sem];exact rfl));clear hK hP K'
  have hlen:=Lq src p j h1 h2
  have hnw:=R0 hp h1 h2 h3 h4 hL
  obtain⟨x,hxe⟩:∃ x,x=src.extract p j:=⟨_,rfl⟩
  have hbx:bl x=((bl src).drop p).take (j-p):=by rw [hxe,O7]
  have hxs:x.size=j-p:=by rw [<- Et,hbx,hlen]
  have hjp:=Rf hp h1 h3 h4 (by simp [isWord,hL])
  rw [<- hbx] at hnw
  repeat (first|apply A3|apply Aq|apply Ax|apply A4|apply As|apply Ay rfl|apply Ar rfl|apply An rfl|(refine Ah rfl ?_;intro K' hK hP;simp only [go_sem];apply hK;(focus (simp only [go_sem];exact rfl));clear hK hP K'))
  refine Ah rfl ?_;intro K' hK hP;simp only [go_sem]
  refine⟨⟨by omega,by omega,by omega⟩,?_⟩
  rw [<- hxe]
  apply hK;(focus (simp only [go_sem];exact rfl));clear hK hP K'
  repeat (first|apply A3|apply Aq|apply Ax|apply A4|apply As|apply Ay rfl|apply Ar rfl|apply An rfl|(refine Ah rfl ?_;intro K' hK hP;simp only [go_sem];apply hK;(focus (simp only [go_sem];exact rfl));clear hK hP K'))
  cases hat:Lib.atoiAll (bl x) with
  |ok v =>
   refine Ah rfl ?_;intro K' hK hP;simp only [go_sem];refine ((Vu x (by omega) v hat)).mono ?_;rintro _ _ ⟨rfl,rfl⟩;simp only [go_sem];apply hK;(focus (simp only [go_sem];exact rfl));clear hK hP K'
   have hv:=hnw.2 v hat
   have hx0:0<x.size:=by omega
   have g2:x.data.toList.getD (Int.toNat 0) 0=x[0]:=(getD_at x 0 hx0).symm
   have hf:=Ww hbx hx0 hp
   by_cases h15:15<x.size
   . have t15:decide ((15:Int)<(x.size:Int))=true:=by rw [decide_eq_true_eq];omega
     repeat (first|apply A3|apply Aq|apply Ax|apply A4|apply As|apply Ay rfl|apply Ar rfl|apply An rfl|(refine Ah rfl ?_;intro K' hK hP;simp only [go_sem,t15];apply hK;(focus (simp only [go_sem];exact rfl));clear hK hP K'))
     refine B8 ?_;simp only [go_sem,Tryz.results167]
     rw [hv.1 (.inl (by omega))]
     exact⟨rfl,rfl⟩
   . have t15:decide ((15:Int)<(x.size:Int))=false:=by rw [decide_eq_false_iff_not];omega
     by_cases h1s:1<x.size
     . have t1:decide ((1:Int)<(x.size:Int))=true:=by rw [decide_eq_true_eq];omega
       by_cases hz:x[0]=48
       . have tz:((x[0].toNat:Int) == 48)=true:=by rw [hz];rfl
         repeat (first|apply A3|apply Aq|apply Ax|apply A4|apply As|apply Ay rfl|apply Ar rfl|apply An rfl|(refine Ah rfl ?_;intro K' hK hP;simp only [go_sem,t15,t1];apply hK;(focus (simp only [go_sem];exact rfl));clear hK hP K'))
         refine Ah rfl ?_;intro K' hK hP;simp only [go_sem,t15,t1,g2,tz]
         refine⟨by omega,?_⟩
         apply hK;(focus (simp only [go_sem];exact rfl));clear hK hP K'
         repeat (first|apply A3|apply Aq|apply Ax|apply A4|apply As|apply Ay rfl|apply Ar rfl|apply An rfl|(refine Ah rfl ?_;intro K' hK hP;simp only [go_sem];apply hK;(focus (simp only [go_sem];exact rfl));clear hK hP K'))
         refine B8 ?_;simp only [go_sem,Tryz.results167]
         rw [hv.1 (.inr ⟨by omega,by rw [<- hf];exact hz⟩)]
         exact⟨rfl,rfl⟩
       . have tz:((x[0].toNat:Int) == 48)=false:=beq_eq_false_iff_ne.2 fun h=>hz ((eq_iff _ 48).2 h)
         have hn:=hv.2 (by omega) (fun h=>hz (by rw [hf];exact h.2))
         repeat (first|apply A3|apply Aq|apply Ax|apply A4|apply As|apply Ay rfl|apply Ar rfl|apply An rfl|(refine Ah rfl ?_;intro K' hK hP;simp only [go_sem,t15,t1];apply hK;(focus (simp only [go_sem];exact rfl));clear hK hP K'))
         refine Ah rfl ?_;intro K' hK hP;simp only [go_sem,t15,t1,g2,tz]
         refine⟨by omega,?_⟩
         apply hK;(focus (simp only [go_sem];exact rfl));clear hK hP K'
         repeat (first|apply A3|apply Aq|apply Ax|apply A4|apply As|apply Ay rfl|apply Ar rfl|apply An rfl|(refine Ah rfl ?_;intro K' hK hP;simp only [go_sem];apply hK;(focus (simp only [go_sem];exact rfl));clear hK hP K'))
         refine Ah rfl ?_;intro K' hK hP;simp only [go_sem];refine ((S4 src p xs 2 j ⟨#[]⟩ v hx hl)).mono ?_;rintro _ _ ⟨rfl,rfl⟩;simp only [go_sem];apply hK;(focus (simp only [go_sem];exact rfl));clear hK hP K'
         repeat (first|apply A3|apply Aq|apply Ax|apply A4|apply As|apply Ay rfl|apply Ar rfl|apply An rfl|(refine Ah rfl ?_;intro K' hK hP;simp only [go_sem];apply hK;(focus (simp only [go_sem];exact rfl));clear hK hP K'))
         refine B8 ?_;simp only [go_sem,Tryz.results167]
         rw [hn.1]
         exact⟨rfl,TW h2 hn.2⟩
     . have t1:decide ((1:Int)<(x.size:Int))=false:=by rw [decide_eq_false_iff_not];omega
       have hn:=hv.2 (by omega) (fun h=>by omega)
       repeat (first|apply A3|apply Aq|apply Ax|apply A4|apply As|apply Ay rfl|apply Ar rfl|apply An rfl|(refine Ah rfl ?_;intro K' hK hP;simp only [go_sem,t15,t1];apply hK;(focus (simp only [go_sem];exact rfl));clear hK hP K'))
       refine Ah rfl ?_;intro K' hK hP;simp only [go_sem];refine ((S4 src p xs 2 j ⟨#[]⟩ v hx hl)).mono ?_;rintro _ _ ⟨rfl,rfl⟩;simp only [go_sem];apply hK;(focus (simp only [go_sem];exact rfl));clear hK hP K'
       repeat (first|apply A3|apply Aq|apply Ax|apply A4|apply As|apply Ay rfl|apply Ar rfl|apply An rfl|(refine Ah rfl ?_;intro K' hK hP;simp only [go_sem];apply hK;(focus (simp only [go_sem];exact rfl));clear hK hP K'))
       refine B8 ?_;simp only [go_sem,Tryz.results167]
       rw [hn.1]
       exact⟨rfl,TW h2 hn.2⟩
  |_ =>
   obtain⟨r,hr⟩:=Ut (σ:=[J3 src p xs]) x (by omega) (fun v=>by rw [hat];simp)
   have hb:=hnw.1 (fun v=>by rw [hat];simp)
   unfold J3 at hr
   refine Ah rfl ?_;intro K' hK hP;simp only [go_sem];refine (hr).mono ?_;rintro _ _ ⟨rfl,rfl⟩;simp only [go_sem];apply hK;(focus (simp only [go_sem];exact rfl));clear hK hP K'
   repeat (first|apply A3|apply Aq|apply Ax|apply A4|apply As|apply Ay rfl|apply Ar rfl|apply An rfl|(refine Ah rfl ?_;intro K' hK hP;simp only [go_sem];apply hK;(focus (simp only [go_sem];exact rfl));clear hK hP K'))
   refine B8 ?_;simp only [go_sem,Tryz.results167]
   rw [hb]
   exact⟨rfl,rfl⟩
end Go.Proofs.YtkcfmlfkfagejaaGreatDoor
