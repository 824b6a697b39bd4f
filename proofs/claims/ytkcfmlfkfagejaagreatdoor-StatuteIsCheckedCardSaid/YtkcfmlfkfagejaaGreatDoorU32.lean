/-
  The lexer's functions, walked in plain values: class, span. The lexer's functions, walked in plain values: put, name.
-/
import Derived.Test.YtkcfmlfkfagejaaGreatDoorU22
import Derived.Test.YtkcfmlfkfagejaaGreatDoorU24
import Derived.Test.YtkcfmlfkfagejaaGreatDoorU25
set_option linter.unusedVariables false
set_option linter.unusedSimpArgs false
namespace Go.Proofs.YtkcfmlfkfagejaaGreatDoor
open Go.RowKit Go.Q Go.Lx Go.Vl
set_option maxRecDepth 100000
variable {σ:List (List PV)}
theorem PW (c:UInt8):VC Tryz.prog 165 [.lit (.int .u8 (c.toNat:Int))] σ fun x σ'=>x=.ret (.lit (.int .i64 (cls c:Int)))/\σ'=σ :=
 VC.lits [.int .u8 (c.toNat:Int)] _ fun w _=>(VV c).mono fun _ _ h=>⟨h.1,by rw [h.2];exact Below.refl _ _⟩
theorem Yq (src:ByteArray)(p:Nat)(xs:List (List PV))(hp:p<=src.size)(hs:src.size<=1000000) :
 VC Tryz.prog 194 [.ptr 0 0,.lit (.int .i64 2)] [[.lit (.string src),.lit (.int .i64 (p:Int)),.sl xs .own]] fun x σ'=>σ'=[[.lit (.string src),.lit (.int .i64 (p:Int)),.sl xs .own]] /\
  ∃ j:Nat,x=.ret (.lit (.int .i64 (j:Int)))/\p<=j/\j<=src.size/\Ic isWord src p j/\headIs isWord ((bl src).drop j)=false:=by
 refine VC.intro ⟨[0,1,4,5,27],[]⟩ Tryz.func194 rfl follows Aax (by rw [Tryz.ntmps194];exact Nat.le_of_ble_eq_true rfl) ?_;refine Ki ?_
 repeat (first|apply A3|apply Aq|apply Ax|apply A4|apply As|apply Ay rfl|apply Ar rfl|apply An rfl|(refine Ah rfl ?_;intro K' hK hP;simp only [go_sem];apply hK;(focus (simp only [go_sem];exact rfl));clear hK hP K'))
 refine HL [0,1,5] 1 (fun j:Nat=>p<=j/\j<=src.size/\Ic isWord src p j) (fun j=>src.size-j) (fun j=>⟨[(0,.ptr 0 0),(1,.lit (.int .i64 2)),(5,.lit (.int .i64 (j:Int)))],[[.lit (.string src),.lit (.int .i64 (p:Int)),.sl xs .own]]⟩) p (Nat.le_refl _) ?_ ⟨Nat.le_refl _,hp,Ic.nil _ _ _⟩ ?_
 . exact rfl
 rintro j ⟨h1,h2,h3⟩
 by_cases hj:j<src.size
 . have d1:decide ((j:Int)<(src.size:Int))=true:=by rw [decide_eq_true_eq];omega
   have g1:=(getD_at src j hj).symm
   have hcw:=WA src[j]
   repeat (first|apply A3|apply Aq|apply Ax|apply A4|apply As|apply Ay rfl|apply Ar rfl|apply An rfl|(refine Ah rfl ?_;intro K' hK hP;simp only [go_sem,d1];apply hK;(focus (simp only [go_sem];exact rfl));clear hK hP K'))
   refine Ah rfl ?_;intro K' hK hP;simp only [go_sem,d1,g1]
   refine⟨⟨by omega,by omega⟩,?_⟩
   refine ((PW src[j])).mono ?_;rintro _ _ ⟨rfl,rfl⟩;simp only [go_sem]
   apply hK;(focus (simp only [go_sem];exact rfl));clear hK hP K'
   by_cases hw:isWord src[j]=true
   . rw [hw] at hcw
     refine Ar (by simp only [go_sem,<- hcw]) ?_
     have w1:IntKind.i64.wrap ((j:Int)+1)=((j+1:Nat):Int):=Ht (by omega) (by omega)
     repeat (first|apply A3|apply Aq|apply Ax|apply A4|apply As|apply Ay rfl|apply Ar rfl|apply An rfl|(refine Ah rfl ?_;intro K' hK hP;simp only [go_sem,w1];apply hK;(focus (simp only [go_sem];exact rfl));clear hK hP K'))
     exact Ca (j+1) rfl ⟨by omega,by omega,h3.succ h1 hj hw⟩ (by omega)
   . simp only [Bool.not_eq_true] at hw
     rw [hw] at hcw
     refine An (by simp only [go_sem,<- hcw]) ?_
     repeat (first|apply A3|apply Aq|apply Ax|apply A4|apply As|apply Ay rfl|apply Ar rfl|apply An rfl|(refine Ah rfl ?_;intro K' hK hP;simp only [go_sem];apply hK;(focus (simp only [go_sem];exact rfl));clear hK hP K'))
     refine B8 ?_;simp only [go_sem,Tryz.results194]
     refine⟨j,rfl,h1,h2,h3,Ub src j h2 fun _=>hw⟩
 . have d1:decide ((j:Int)<(src.size:Int))=false:=by rw [decide_eq_false_iff_not];omega
   repeat (first|apply A3|apply Aq|apply Ax|apply A4|apply As|apply Ay rfl|apply Ar rfl|apply An rfl|(refine Ah rfl ?_;intro K' hK hP;simp only [go_sem,d1];apply hK;(focus (simp only [go_sem];exact rfl));clear hK hP K'))
   refine B8 ?_;simp only [go_sem,Tryz.results194]
   refine⟨j,rfl,h1,h2,h3,Ub src j h2 fun h=>absurd h hj⟩
theorem Ny (s:ByteArray)(c:UInt8):VC Tryz.prog 164 [.lit (.string s),.lit (.int .u8 (c.toNat:Int))] σ fun x σ'=>x=.ret (.lit (.int .i64 (Lib.indexByte (bl s) c)))/\σ'=σ :=
 VC.lits [.string s,.int .u8 (c.toNat:Int)] _ fun w _=>(Tryz.strings_IndexByte s (c.toNat:Int) w).mono fun _ _ h=>⟨by rw [h.1];congr 4;simp,by rw [h.2];exact Below.refl _ _⟩
theorem Yr (src:ByteArray)(p:Nat)(xs:List (List PV))(hp:p<=src.size)(hs:src.size<=1000000) :
 VC Tryz.prog 143 [.ptr 0 0] [[.lit (.string src),.lit (.int .i64 (p:Int)),.sl xs .own]] fun x σ'=>x=.ret (.tup [])/\σ'=[[.lit (.string src),.lit (.int .i64 ((src.size-(skip false ((bl src).drop p)).length:Nat):Int)),.sl xs .own]]:=by
 obtain⟨R,hR⟩:∃ R,skip false ((bl src).drop p)=R:=⟨_,rfl⟩
 rw [hR]
 refine VC.intro ⟨[0,2,3,13,23,37,56],[]⟩ Tryz.func143 rfl follows Aa4 (by rw [Tryz.ntmps143];exact Nat.le_of_ble_eq_true rfl) ?_;refine Ki ?_
 repeat (first|apply A3|apply Aq|apply Ax|apply A4|apply As|apply Ay rfl|apply Ar rfl|apply An rfl|(refine Ah rfl ?_;intro K' hK hP;simp only [go_sem];apply hK;(focus (simp only [go_sem];exact rfl));clear hK hP K'))
 refine HL [0] 1 (fun j:Nat=>j<=src.size/\skip false ((bl src).drop j)=R) (fun j=>src.size-j) (fun j=>⟨[(0,.ptr 0 0)],[[.lit (.string src),.lit (.int .i64 (j:Int)),.sl xs .own]]⟩) p (Nat.le_refl _) ?_ ⟨hp,hR⟩ ?_
 . exact rfl
 rintro j ⟨h1,h2⟩
 clear hR
 by_cases hj:j<src.size
 . have d1:decide ((j:Int)<(src.size:Int))=true:=by rw [decide_eq_true_eq];omega
   have g1:=(getD_at src j hj).symm
   have hdr:=Fw src j hj
   repeat (first|apply A3|apply Aq|apply Ax|apply A4|apply As|apply Ay rfl|apply Ar rfl|apply An rfl|(refine Ah rfl ?_;intro K' hK hP;simp only [go_sem,d1];apply hK;(focus (simp only [go_sem];exact rfl));clear hK hP K'))
   refine Ah rfl ?_;intro K' hK hP;simp only [go_sem,g1]
   refine⟨⟨by omega,by omega⟩,?_⟩
   apply hK;(focus (simp only [go_sem];exact rfl));clear hK hP K'
   repeat (first|apply A3|apply Aq|apply Ax|apply A4|apply As|apply Ay rfl|apply Ar rfl|apply An rfl|(refine Ah rfl ?_;intro K' hK hP;simp only [go_sem];apply hK;(focus (simp only [go_sem];exact rfl));clear hK hP K'))
   by_cases h35:(src[j].toNat:Int)=35
   . have b35:decide ((src[j].toNat:Int)=35)=true:=decide_eq_true h35
     have hR1:skip true ((bl src).drop j)=R:=by rw [<- h2,hdr,LZ ((eq_iff src[j] 35).2 h35),N7 (by rw [(eq_iff src[j] 35).2 h35];decide)]
     have HX:bl (src.extract j src.size)=(bl src).drop j:=by rw [O7,List.take_of_length_le (by rw [List.length_drop,Et];exact Nat.le_refl _)]
     have hix:=RG ((bl src).drop j)
     have hz0:Lib.indexByte ((bl src).drop j) 10≠0:=by rw [hdr,(eq_iff src[j] 35).2 h35];exact Z8
     have hcall:=Ny (σ:=[[.lit (.string src),.lit (.int .i64 (j:Int)),.sl xs .own]]) (src.extract j src.size) 10
     rw [HX] at hcall
     obtain⟨z,hz⟩:∃ z,z=Lib.indexByte ((bl src).drop j) 10:=⟨_,rfl⟩
     rw [<- hz] at hix hz0 hcall
     have hzge : -1<=z:=by rw [hz];exact Lib.indexByte_ge _ _
     refine Ar (by simp only [go_sem];rw [h35];rfl) ?_
     repeat (first|apply A3|apply Aq|apply Ax|apply A4|apply As|apply Ay rfl|apply Ar rfl|apply An rfl|(refine Ah rfl ?_;intro K' hK hP;simp only [go_sem];apply hK;(focus (simp only [go_sem];exact rfl));clear hK hP K'))
     refine Ah rfl ?_;intro K' hK hP;simp only [go_sem]
     refine⟨⟨by omega,by omega,by omega⟩,?_⟩
     refine (hcall).mono ?_;rintro _ _ ⟨rfl,rfl⟩;simp only [go_sem]
     apply hK;(focus (simp only [go_sem];exact rfl));clear hK hP K'
     repeat (first|apply A3|apply Aq|apply Ax|apply A4|apply As|apply Ay rfl|apply Ar rfl|apply An rfl|(refine Ah rfl ?_;intro K' hK hP;simp only [go_sem];apply hK;(focus (simp only [go_sem];exact rfl));clear hK hP K'))
     by_cases hzn:z<0
     . have tz:decide (z<0)=true:=decide_eq_true hzn
       refine Ar (by simp only [go_sem,tz]) ?_
       have w1:IntKind.i64.wrap ((src.size:Int)-(j:Int))=((src.size-j:Nat):Int):=Ht (by omega) (by omega)
       have w2:IntKind.i64.wrap ((j:Int)+((src.size-j:Nat):Int))=(src.size:Int):=Ht (by omega) (by omega)
       repeat (first|apply A3|apply Aq|apply Ax|apply A4|apply As|apply Ay rfl|apply Ar rfl|apply An rfl|(refine Ah rfl ?_;intro K' hK hP;simp only [go_sem,w1,w2];apply hK;(focus (simp only [go_sem];exact rfl));clear hK hP K'))
       exact Ca src.size rfl ⟨Nat.le_refl _,by rw [<- hR1,hix.1 hzn,Mw];rfl⟩ (by omega)
     . have tz:decide (z<0)=false:=decide_eq_false hzn
       refine An (by simp only [go_sem,tz]) ?_
       obtain⟨k,rfl⟩:∃ k:Nat,z=(k:Int):=⟨z.toNat,by omega⟩
       obtain⟨hk1,hk2⟩:=hix.2 k rfl
       rw [List.length_drop,Et] at hk1
       have hk0:0<k:=by omega
       have w1:IntKind.i64.wrap ((j:Int)+(k:Int))=((j+k:Nat):Int):=Ht (by omega) (by omega)
       repeat (first|apply A3|apply Aq|apply Ax|apply A4|apply As|apply Ay rfl|apply Ar rfl|apply An rfl|(refine Ah rfl ?_;intro K' hK hP;simp only [go_sem,w1];apply hK;(focus (simp only [go_sem];exact rfl));clear hK hP K'))
       exact Ca (j+k) rfl ⟨by omega,by rw [<- hR1,hk2,List.drop_drop]⟩ (by omega)
   . have b35:((src[j].toNat:Int) == 35)=false:=by simpa using h35
     refine An (by simp only [go_sem,b35]) ?_
     repeat (first|apply A3|apply Aq|apply Ax|apply A4|apply As|apply Ay rfl|apply Ar rfl|apply An rfl|(refine Ah rfl ?_;intro K' hK hP;simp only [go_sem];apply hK;(focus (simp only [go_sem];exact rfl));clear hK hP K'))
     refine Ah rfl ?_;intro K' hK hP;simp only [go_sem];refine ((PW src[j])).mono ?_;rintro _ _ ⟨rfl,rfl⟩;simp only [go_sem];apply hK;(focus (simp only [go_sem];exact rfl));clear hK hP K'
     by_cases hb:DH src[j]=true
     . have hc1:=Vc _ hb
       refine Ar (by simp only [go_sem,hc1];rfl) ?_
       have w1:IntKind.i64.wrap ((j:Int)+1)=((j+1:Nat):Int):=Ht (by omega) (by omega)
       repeat (first|apply A3|apply Aq|apply Ax|apply A4|apply As|apply Ay rfl|apply Ar rfl|apply An rfl|(refine Ah rfl ?_;intro K' hK hP;simp only [go_sem,w1];apply hK;(focus (simp only [go_sem];exact rfl));clear hK hP K'))
       exact Ca (j+1) rfl ⟨by omega,by rw [<- h2,hdr,Ma hb]⟩ (by omega)
     . simp only [Bool.not_eq_true] at hb
       have hc1:=OV _ hb
       refine An (by simp only [go_sem,hc1]) ?_
       have e:src.size-R.length=j:=by
        rw [<- h2,hdr,Jl,hb,if_neg (by simp),if_neg (fun h=>h35 ((eq_iff src[j] 35).1 h)),<- hdr,List.length_drop,Et];omega
       refine B8 ?_;simp only [go_sem,e,Tryz.results143]
 . have d1:decide ((j:Int)<(src.size:Int))=false:=by rw [decide_eq_false_iff_not];omega
   repeat (first|apply A3|apply Aq|apply Ax|apply A4|apply As|apply Ay rfl|apply Ar rfl|apply An rfl|(refine Ah rfl ?_;intro K' hK hP;simp only [go_sem,d1];apply hK;(focus (simp only [go_sem];exact rfl));clear hK hP K'))
   obtain rfl:j=src.size:=by omega
   rw [Mw] at h2
   have e:src.size-R.length=src.size:=by rw [<- h2];rfl
   refine WN ?_
   simp only [go_sem,Tryz.results143,e]
end Go.Proofs.YtkcfmlfkfagejaaGreatDoor
namespace Go.Proofs.YtkcfmlfkfagejaaGreatDoor
open Go.RowKit Go.Q Go.Lx Go.Vl
set_option maxRecDepth 100000
theorem T7 {p:Prop}[Decidable p]{xs ys:List (List PV)}{sz:Nat}(h:p)(hx:∀ x∈xs,x.length=sz)(hy:(ys.all fun x=>x.length == sz)=true):(decide p&&((xs.all fun x=>x.length == sz)&&(ys.all fun x=>x.length == sz)))=true:=by
 rw [decide_eq_true h,hy,Bool.true_and,Bool.and_true,List.all_eq_true]
 exact fun x h=>beq_iff_eq.2 (hx x h)
def J3 (src:ByteArray)(p:Nat)(xs:List (List PV)):List PV:=[.lit (.string src),.lit (.int .i64 (p:Int)),.sl xs .own]
theorem S4 (src:ByteArray)(p:Nat)(xs:List (List PV))(kind q:Nat)(str:ByteArray)(n:Int)(hx:∀ x∈xs,x.length=4)(hl:xs.length<=1000000) :
 VC Tryz.prog 145 [.ptr 0 0,.lit (.int .i64 (kind:Int)),.lit (.int .i64 (q:Int)),.lit (.string str),.lit (.int .i64 n)] [J3 src p xs] fun x σ'=>x=.ret (.lit (.int .i64 0))/\σ'=[J3 src q (xs++[[.lit (.int .i64 (kind:Int)),.lit (.int .i64 (p:Int)),.lit (.string str),.lit (.int .i64 n)]])]:=by
 unfold J3
 refine VC.intro ⟨[0,1,2,3,4,10],[]⟩ Tryz.func145 rfl follows Aa2 (by rw [Tryz.ntmps145];exact Nat.le_of_ble_eq_true rfl) ?_;refine Ki ?_
 repeat (first|apply A3|apply Aq|apply Ax|apply A4|apply As|apply Ay rfl|apply Ar rfl|apply An rfl|(refine Ah rfl ?_;intro K' hK hP;simp only [go_sem];apply hK;(focus (simp only [go_sem];exact rfl));clear hK hP K'))
 refine Ah rfl ?_;intro K' hK hP;simp only [go_sem]
 refine⟨rfl,T7 (by omega) hx rfl,?_⟩
 apply hK;(focus (simp only [go_sem];exact rfl));clear hK hP K'
 repeat (first|apply A3|apply Aq|apply Ax|apply A4|apply As|apply Ay rfl|apply Ar rfl|apply An rfl|(refine Ah rfl ?_;intro K' hK hP;simp only [go_sem];apply hK;(focus (simp only [go_sem];exact rfl));clear hK hP K'))
 refine B8 ?_;simp only [go_sem,Tryz.results145]
def Vz (p k:Nat)(s:List UInt8)(v:Nat):List PV:=[.lit (.int .i64 (k:Int)),.lit (.int .i64 (p:Int)),.lit (.string ⟨⟨s⟩⟩),.lit (.int .i64 (v:Int))]
def ZO:Option Out->PV
 |none=>.tup [.lit (.bool false),.lit (.int .i64 0)]
 |some (.bad e)=>.tup [.lit (.bool true),.lit (.int .i64 (e:Int))]
 |some (.ok _ _ _ _)=>.tup [.lit (.bool true),.lit (.int .i64 0)]
def Xy (src:ByteArray)(p:Nat)(xs:List (List PV)):Option Out->List PV
 |some (.ok k s v r)=>J3 src (src.size-r.length) (xs++[Vz p k s v])
 |_=>J3 src p xs
theorem Vb (c:UInt8):((cls c:Int) != 3) = !isLetter c:=by
 unfold cls
 cases isLetter c<;>cases isDigit c<;>cases DH c<;>rfl
theorem ZG {src:ByteArray}{p j:Nat}:src.extract p j=⟨⟨((bl src).drop p).take (j-p)⟩⟩:=by
 have:=O7 src p j
 rw [<- this]
theorem Aab (src:ByteArray)(p:Nat)(xs:List (List PV))(hp:p<src.size)(hs:src.size<=1000000)(hx:∀ x∈xs,x.length=4)(hl:xs.length<=1000000) :
 VC Tryz.prog 166 [.ptr 0 0] [J3 src p xs] fun x σ'=>x=.ret (ZO (if isLetter src[p] then some (name ((bl src).drop p)) else none))/\σ'=[Xy src p xs (if isLetter src[p] then some (name ((bl src).drop p)) else none)]:=by
 have g1:=(getD_at src p hp).symm
 have e3:=Vb src[p]
 unfold J3
 refine VC.intro ⟨[0,2,3,4,15,24],[]⟩ Tryz.func166 rfl follows Aa1 (by rw [Tryz.ntmps166];exact Nat.le_of_ble_eq_true rfl) ?_;refine Ki ?_
 repeat (first|apply A3|apply Aq|apply Ax|apply A4|apply As|apply Ay rfl|apply Ar rfl|apply An rfl|(refine Ah rfl ?_;intro K' hK hP;simp only [go_sem];apply hK;(focus (simp only [go_sem];exact rfl));clear hK hP K'))
 refine Ah rfl ?_;intro K' hK hP;simp only [go_sem,g1]
 refine⟨⟨by omega,by omega⟩,?_⟩
 refine ((PW src[p])).mono ?_;rintro _ _ ⟨rfl,rfl⟩;simp only [go_sem]
 apply hK;(focus (simp only [go_sem];exact rfl));clear hK hP K'
 cases hL:isLetter src[p] with
 |false =>
  rw [hL] at e3
  refine Ar (by simp only [go_sem,e3]) ?_
  repeat (first|apply A3|apply Aq|apply Ax|apply A4|apply As|apply Ay rfl|apply Ar rfl|apply An rfl|(refine Ah rfl ?_;intro K' hK hP;simp only [go_sem];apply hK;(focus (simp only [go_sem];exact rfl));clear hK hP K'))
  refine B8 ?_;simp only [go_sem,Tryz.results166]
  exact⟨rfl,rfl⟩
 |true =>
  rw [hL] at e3
  refine An (by simp only [go_sem,e3]) ?_
  repeat (first|apply A3|apply Aq|apply Ax|apply A4|apply As|apply Ay rfl|apply Ar rfl|apply An rfl|(refine Ah rfl ?_;intro K' hK hP;simp only [go_sem];apply hK;(focus (simp only [go_sem];exact rfl));clear hK hP K'))
  refine Ah rfl ?_;intro K' hK hP;simp only [go_sem]
  refine (Yq src p xs (Nat.le_of_lt hp) hs).mono ?_
  rintro _ _ ⟨rfl,j,rfl,h1,h2,h3,h4⟩
  simp only [go_sem]
  apply hK;(focus (simp only [go_sem];exact rfl));clear hK hP K'
  have hw:=h3.while h1 h4
  have hlen:=Lq src p j h1 h2
  have w1:IntKind.i64.wrap ((j:Int)-(p:Int))=((j-p:Nat):Int):=Ht (by omega) (by omega)
  repeat (first|apply A3|apply Aq|apply Ax|apply A4|apply As|apply Ay rfl|apply Ar rfl|apply An rfl|(refine Ah rfl ?_;intro K' hK hP;simp only [go_sem,w1];apply hK;(focus (simp only [go_sem];exact rfl));clear hK hP K'))
  by_cases h32:32<j-p
  . have hr:name ((bl src).drop p)=.bad 2:=by unfold name;rw [hw.1,hlen,if_pos h32]
    refine Ar (by simp only [go_sem];rw [decide_eq_true (by omega)]) ?_
    repeat (first|apply A3|apply Aq|apply Ax|apply A4|apply As|apply Ay rfl|apply Ar rfl|apply An rfl|(refine Ah rfl ?_;intro K' hK hP;simp only [go_sem];apply hK;(focus (simp only [go_sem];exact rfl));clear hK hP K'))
    refine B8 ?_;simp only [go_sem,Tryz.results166]
    rw [hr]
    exact⟨rfl,rfl⟩
  . have hr:name ((bl src).drop p)=.ok 1 (((bl src).drop p).take (j-p)) 0 ((bl src).drop j):=by unfold name;rw [hw.1,hw.2,hlen,if_neg h32]
    have hq:src.size-((bl src).drop j).length=j:=by rw [List.length_drop,Et];omega
    refine An (by simp only [go_sem];rw [decide_eq_false (by omega)]) ?_
    repeat (first|apply A3|apply Aq|apply Ax|apply A4|apply As|apply Ay rfl|apply Ar rfl|apply An rfl|(refine Ah rfl ?_;intro K' hK hP;simp only [go_sem];apply hK;(focus (simp only [go_sem];exact rfl));clear hK hP K'))
    refine Ah rfl ?_;intro K' hK hP;simp only [go_sem]
    refine⟨⟨by omega,by omega,by omega⟩,?_⟩
    refine ((S4 src p xs 1 j (src.extract p j) 0 hx hl)).mono ?_;rintro _ _ ⟨rfl,rfl⟩;simp only [go_sem]
    apply hK;(focus (simp only [go_sem];exact rfl));clear hK hP K'
    repeat (first|apply A3|apply Aq|apply Ax|apply A4|apply As|apply Ay rfl|apply Ar rfl|apply An rfl|(refine Ah rfl ?_;intro K' hK hP;simp only [go_sem];apply hK;(focus (simp only [go_sem];exact rfl));clear hK hP K'))
    refine B8 ?_;simp only [go_sem,Tryz.results166]
    rw [hr]
    refine⟨rfl,?_⟩
    show [J3 _ _ _]=[J3 _ _ _]
    rw [hq,ZG];rfl
end Go.Proofs.YtkcfmlfkfagejaaGreatDoor
