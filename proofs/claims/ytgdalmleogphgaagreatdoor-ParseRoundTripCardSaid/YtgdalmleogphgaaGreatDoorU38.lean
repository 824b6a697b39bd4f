/-
  The lexer's functions, walked in plain values: class, span. The lexer's functions, walked in plain values: put, name. The lexer's functions, walked in plain values: number.
-/
import Derived.Test.YtgdalmleogphgaaGreatDoorU28
import Derived.Test.YtgdalmleogphgaaGreatDoorU36
namespace Go.Proofs.YtgdalmleogphgaaGreatDoor
open Go.RowKit Go.Q Go.Lx Go.Vl
set_option maxRecDepth 100000
variable {σ:List (List PV)}
theorem N9 (c:UInt8):VC Tryz.prog 96 [.lit (.int .u8 (c.toNat:Int))] σ fun x σ'=>x=.ret (.lit (.int .i64 (cls c:Int)))/\σ'=σ :=
 VC.lits [.int .u8 (c.toNat:Int)] _ fun w _=>(Tp c).mono fun _ _ h=>⟨h.1,by rw [h.2];exact Below.refl _ _⟩
theorem Vn (src:ByteArray)(p:Nat)(xs:List (List PV))(hp:p<=src.size)(hs:src.size<=1000000) :
 VC Tryz.prog 112 [.ptr 0 0,.lit (.int .i64 2)] [[.lit (.string src),.lit (.int .i64 (p:Int)),.sl xs .own]] fun x σ'=>σ'=[[.lit (.string src),.lit (.int .i64 (p:Int)),.sl xs .own]] /\
  ∃ j:Nat,x=.ret (.lit (.int .i64 (j:Int)))/\p<=j/\j<=src.size/\Gw isWord src p j/\headIs isWord ((bl src).drop j)=false:=by
 refine VC.intro ⟨[0,1,4,5,27],[]⟩ Tryz.func112 rfl follows Xg (by rw [Tryz.ntmps112];exact Nat.le_of_ble_eq_true rfl) ?_;refine Iv ?_
 repeat (first|apply A6|apply Ao|apply Au|apply A7|apply An|apply Av rfl|apply Ap rfl|apply Aj rfl|(refine Ah rfl ?_;intro K' hK hP;simp only [go_sem];apply hK;(focus (simp only [go_sem];exact rfl));clear hK hP K'))
 refine C9 [0,1,5] 1 (fun j:Nat=>p<=j/\j<=src.size/\Gw isWord src p j) (fun j=>src.size-j) (fun j=>⟨[(0,.ptr 0 0),(1,.lit (.int .i64 2)),(5,.lit (.int .i64 (j:Int)))],[[.lit (.string src),.lit (.int .i64 (p:Int)),.sl xs .own]]⟩) p (Nat.le_refl _) ?_ ⟨Nat.le_refl _,hp,Gw.nil _ _ _⟩ ?_
 . exact rfl
 rintro j ⟨h1,h2,h3⟩
 by_cases hj:j<src.size
 . have d1:decide ((j:Int)<(src.size:Int))=true:=by rw [decide_eq_true_eq];omega
   have g1:=(getD_at src j hj).symm
   have hcw:=TX src[j]
   repeat (first|apply A6|apply Ao|apply Au|apply A7|apply An|apply Av rfl|apply Ap rfl|apply Aj rfl|(refine Ah rfl ?_;intro K' hK hP;simp only [go_sem,d1];apply hK;(focus (simp only [go_sem];exact rfl));clear hK hP K'))
   refine Ah rfl ?_;intro K' hK hP;simp only [go_sem,d1,g1]
   refine⟨⟨by omega,by omega⟩,?_⟩
   refine ((N9 src[j])).mono ?_;rintro _ _ ⟨rfl,rfl⟩;simp only [go_sem]
   apply hK;(focus (simp only [go_sem];exact rfl));clear hK hP K'
   by_cases hw:isWord src[j]=true
   . rw [hw] at hcw
     refine Ap (by simp only [go_sem,<- hcw]) ?_
     have w1:IntKind.i64.wrap ((j:Int)+1)=((j+1:Nat):Int):=FD (by omega) (by omega)
     repeat (first|apply A6|apply Ao|apply Au|apply A7|apply An|apply Av rfl|apply Ap rfl|apply Aj rfl|(refine Ah rfl ?_;intro K' hK hP;simp only [go_sem,w1];apply hK;(focus (simp only [go_sem];exact rfl));clear hK hP K'))
     exact AQ (j+1) rfl ⟨by omega,by omega,h3.succ h1 hj hw⟩ (by omega)
   . simp only [Bool.not_eq_true] at hw
     rw [hw] at hcw
     refine Aj (by simp only [go_sem,<- hcw]) ?_
     repeat (first|apply A6|apply Ao|apply Au|apply A7|apply An|apply Av rfl|apply Ap rfl|apply Aj rfl|(refine Ah rfl ?_;intro K' hK hP;simp only [go_sem];apply hK;(focus (simp only [go_sem];exact rfl));clear hK hP K'))
     refine B9 ?_;simp only [go_sem,Tryz.results112]
     refine⟨j,rfl,h1,h2,h3,QV src j h2 fun _=>hw⟩
 . have d1:decide ((j:Int)<(src.size:Int))=false:=by rw [decide_eq_false_iff_not];omega
   repeat (first|apply A6|apply Ao|apply Au|apply A7|apply An|apply Av rfl|apply Ap rfl|apply Aj rfl|(refine Ah rfl ?_;intro K' hK hP;simp only [go_sem,d1];apply hK;(focus (simp only [go_sem];exact rfl));clear hK hP K'))
   refine B9 ?_;simp only [go_sem,Tryz.results112]
   refine⟨j,rfl,h1,h2,h3,QV src j h2 fun h=>absurd h hj⟩
theorem Lo (s:ByteArray)(c:UInt8):VC Tryz.prog 95 [.lit (.string s),.lit (.int .u8 (c.toNat:Int))] σ fun x σ'=>x=.ret (.lit (.int .i64 (Lib.indexByte (bl s) c)))/\σ'=σ :=
 VC.lits [.string s,.int .u8 (c.toNat:Int)] _ fun w _=>(Tryz.strings_IndexByte s (c.toNat:Int) w).mono fun _ _ h=>⟨by rw [h.1];congr 4;simp,by rw [h.2];exact Below.refl _ _⟩
theorem Vo (src:ByteArray)(p:Nat)(xs:List (List PV))(hp:p<=src.size)(hs:src.size<=1000000) :
 VC Tryz.prog 72 [.ptr 0 0] [[.lit (.string src),.lit (.int .i64 (p:Int)),.sl xs .own]] fun x σ'=>x=.ret (.tup [])/\σ'=[[.lit (.string src),.lit (.int .i64 ((src.size-(skip false ((bl src).drop p)).length:Nat):Int)),.sl xs .own]]:=by
 obtain⟨R,hR⟩:∃ R,skip false ((bl src).drop p)=R:=⟨_,rfl⟩
 rw [hR]
 refine VC.intro ⟨[0,2,3,13,23,37,56],[]⟩ Tryz.func72 rfl follows XR (by rw [Tryz.ntmps72];exact Nat.le_of_ble_eq_true rfl) ?_;refine Iv ?_
 repeat (first|apply A6|apply Ao|apply Au|apply A7|apply An|apply Av rfl|apply Ap rfl|apply Aj rfl|(refine Ah rfl ?_;intro K' hK hP;simp only [go_sem];apply hK;(focus (simp only [go_sem];exact rfl));clear hK hP K'))
 refine C9 [0] 1 (fun j:Nat=>j<=src.size/\skip false ((bl src).drop j)=R) (fun j=>src.size-j) (fun j=>⟨[(0,.ptr 0 0)],[[.lit (.string src),.lit (.int .i64 (j:Int)),.sl xs .own]]⟩) p (Nat.le_refl _) ?_ ⟨hp,hR⟩ ?_
 . exact rfl
 rintro j ⟨h1,h2⟩
 clear hR
 by_cases hj:j<src.size
 . have d1:decide ((j:Int)<(src.size:Int))=true:=by rw [decide_eq_true_eq];omega
   have g1:=(getD_at src j hj).symm
   have hdr:=DK src j hj
   repeat (first|apply A6|apply Ao|apply Au|apply A7|apply An|apply Av rfl|apply Ap rfl|apply Aj rfl|(refine Ah rfl ?_;intro K' hK hP;simp only [go_sem,d1];apply hK;(focus (simp only [go_sem];exact rfl));clear hK hP K'))
   refine Ah rfl ?_;intro K' hK hP;simp only [go_sem,g1]
   refine⟨⟨by omega,by omega⟩,?_⟩
   apply hK;(focus (simp only [go_sem];exact rfl));clear hK hP K'
   repeat (first|apply A6|apply Ao|apply Au|apply A7|apply An|apply Av rfl|apply Ap rfl|apply Aj rfl|(refine Ah rfl ?_;intro K' hK hP;simp only [go_sem];apply hK;(focus (simp only [go_sem];exact rfl));clear hK hP K'))
   by_cases h35:(src[j].toNat:Int)=35
   . have b35:decide ((src[j].toNat:Int)=35)=true:=decide_eq_true h35
     have hR1:skip true ((bl src).drop j)=R:=by rw [<- h2,hdr,Kc ((eq_iff src[j] 35).2 h35),L7 (by rw [(eq_iff src[j] 35).2 h35];decide)]
     have HX:bl (src.extract j src.size)=(bl src).drop j:=by rw [Mo,List.take_of_length_le (by rw [List.length_drop,CL];exact Nat.le_refl _)]
     have hix:=Pn ((bl src).drop j)
     have hz0:Lib.indexByte ((bl src).drop j) 10≠0:=by rw [hdr,(eq_iff src[j] 35).2 h35];exact Wm
     have hcall:=Lo (σ:=[[.lit (.string src),.lit (.int .i64 (j:Int)),.sl xs .own]]) (src.extract j src.size) 10
     rw [HX] at hcall
     obtain⟨z,hz⟩:∃ z,z=Lib.indexByte ((bl src).drop j) 10:=⟨_,rfl⟩
     rw [<- hz] at hix hz0 hcall
     have hzge : -1<=z:=by rw [hz];exact Lib.indexByte_ge _ _
     refine Ap (by simp only [go_sem];rw [h35];rfl) ?_
     repeat (first|apply A6|apply Ao|apply Au|apply A7|apply An|apply Av rfl|apply Ap rfl|apply Aj rfl|(refine Ah rfl ?_;intro K' hK hP;simp only [go_sem];apply hK;(focus (simp only [go_sem];exact rfl));clear hK hP K'))
     refine Ah rfl ?_;intro K' hK hP;simp only [go_sem]
     refine⟨⟨by omega,by omega,by omega⟩,?_⟩
     refine (hcall).mono ?_;rintro _ _ ⟨rfl,rfl⟩;simp only [go_sem]
     apply hK;(focus (simp only [go_sem];exact rfl));clear hK hP K'
     repeat (first|apply A6|apply Ao|apply Au|apply A7|apply An|apply Av rfl|apply Ap rfl|apply Aj rfl|(refine Ah rfl ?_;intro K' hK hP;simp only [go_sem];apply hK;(focus (simp only [go_sem];exact rfl));clear hK hP K'))
     by_cases hzn:z<0
     . have tz:decide (z<0)=true:=decide_eq_true hzn
       refine Ap (by simp only [go_sem,tz]) ?_
       have w1:IntKind.i64.wrap ((src.size:Int)-(j:Int))=((src.size-j:Nat):Int):=FD (by omega) (by omega)
       have w2:IntKind.i64.wrap ((j:Int)+((src.size-j:Nat):Int))=(src.size:Int):=FD (by omega) (by omega)
       repeat (first|apply A6|apply Ao|apply Au|apply A7|apply An|apply Av rfl|apply Ap rfl|apply Aj rfl|(refine Ah rfl ?_;intro K' hK hP;simp only [go_sem,w1,w2];apply hK;(focus (simp only [go_sem];exact rfl));clear hK hP K'))
       exact AQ src.size rfl ⟨Nat.le_refl _,by rw [<- hR1,hix.1 hzn,Kt];rfl⟩ (by omega)
     . have tz:decide (z<0)=false:=decide_eq_false hzn
       refine Aj (by simp only [go_sem,tz]) ?_
       obtain⟨k,rfl⟩:∃ k:Nat,z=(k:Int):=⟨z.toNat,by omega⟩
       obtain⟨hk1,hk2⟩:=hix.2 k rfl
       rw [List.length_drop,CL] at hk1
       have hk0:0<k:=by omega
       have w1:IntKind.i64.wrap ((j:Int)+(k:Int))=((j+k:Nat):Int):=FD (by omega) (by omega)
       repeat (first|apply A6|apply Ao|apply Au|apply A7|apply An|apply Av rfl|apply Ap rfl|apply Aj rfl|(refine Ah rfl ?_;intro K' hK hP;simp only [go_sem,w1];apply hK;(focus (simp only [go_sem];exact rfl));clear hK hP K'))
       exact AQ (j+k) rfl ⟨by omega,by rw [<- hR1,hk2,List.drop_drop]⟩ (by omega)
   . have b35:((src[j].toNat:Int) == 35)=false:=by simpa using h35
     refine Aj (by simp only [go_sem,b35]) ?_
     repeat (first|apply A6|apply Ao|apply Au|apply A7|apply An|apply Av rfl|apply Ap rfl|apply Aj rfl|(refine Ah rfl ?_;intro K' hK hP;simp only [go_sem];apply hK;(focus (simp only [go_sem];exact rfl));clear hK hP K'))
     refine Ah rfl ?_;intro K' hK hP;simp only [go_sem];refine ((N9 src[j])).mono ?_;rintro _ _ ⟨rfl,rfl⟩;simp only [go_sem];apply hK;(focus (simp only [go_sem];exact rfl));clear hK hP K'
     by_cases hb:isBlank src[j]=true
     . have hc1:=Si _ hb
       refine Ap (by simp only [go_sem,hc1];rfl) ?_
       have w1:IntKind.i64.wrap ((j:Int)+1)=((j+1:Nat):Int):=FD (by omega) (by omega)
       repeat (first|apply A6|apply Ao|apply Au|apply A7|apply An|apply Av rfl|apply Ap rfl|apply Aj rfl|(refine Ah rfl ?_;intro K' hK hP;simp only [go_sem,w1];apply hK;(focus (simp only [go_sem];exact rfl));clear hK hP K'))
       exact AQ (j+1) rfl ⟨by omega,by rw [<- h2,hdr,Kd hb]⟩ (by omega)
     . simp only [Bool.not_eq_true] at hb
       have hc1:=MB _ hb
       refine Aj (by simp only [go_sem,hc1]) ?_
       have e:src.size-R.length=j:=by
        rw [<- h2,hdr,Hy,hb,if_neg (by simp),if_neg (fun h=>h35 ((eq_iff src[j] 35).1 h)),<- hdr,List.length_drop,CL];omega
       refine B9 ?_;simp only [go_sem,e,Tryz.results72]
 . have d1:decide ((j:Int)<(src.size:Int))=false:=by rw [decide_eq_false_iff_not];omega
   repeat (first|apply A6|apply Ao|apply Au|apply A7|apply An|apply Av rfl|apply Ap rfl|apply Aj rfl|(refine Ah rfl ?_;intro K' hK hP;simp only [go_sem,d1];apply hK;(focus (simp only [go_sem];exact rfl));clear hK hP K'))
   obtain rfl:j=src.size:=by omega
   rw [Kt] at h2
   have e:src.size-R.length=src.size:=by rw [<- h2];rfl
   refine Qy ?_
   simp only [go_sem,Tryz.results72,e]
end Go.Proofs.YtgdalmleogphgaaGreatDoor
namespace Go.Proofs.YtgdalmleogphgaaGreatDoor
open Go.RowKit Go.Q Go.Lx Go.Vl
set_option maxRecDepth 100000
theorem Qt {p:Prop}[Decidable p]{xs ys:List (List PV)}{sz:Nat}(h:p)(hx:∀ x∈xs,x.length=sz)(hy:(ys.all fun x=>x.length == sz)=true):(decide p&&((xs.all fun x=>x.length == sz)&&(ys.all fun x=>x.length == sz)))=true:=by
 rw [decide_eq_true h,hy,Bool.true_and,Bool.and_true,List.all_eq_true]
 exact fun x h=>beq_iff_eq.2 (hx x h)
def H9 (src:ByteArray)(p:Nat)(xs:List (List PV)):List PV:=[.lit (.string src),.lit (.int .i64 (p:Int)),.sl xs .own]
theorem PA (src:ByteArray)(p:Nat)(xs:List (List PV))(kind q:Nat)(str:ByteArray)(n:Int)(hx:∀ x∈xs,x.length=4)(hl:xs.length<=1000000) :
 VC Tryz.prog 74 [.ptr 0 0,.lit (.int .i64 (kind:Int)),.lit (.int .i64 (q:Int)),.lit (.string str),.lit (.int .i64 n)] [H9 src p xs] fun x σ'=>x=.ret (.lit (.int .i64 0))/\σ'=[H9 src q (xs++[[.lit (.int .i64 (kind:Int)),.lit (.int .i64 (p:Int)),.lit (.string str),.lit (.int .i64 n)]])]:=by
 unfold H9
 refine VC.intro ⟨[0,1,2,3,4,10],[]⟩ Tryz.func74 rfl follows XP (by rw [Tryz.ntmps74];exact Nat.le_of_ble_eq_true rfl) ?_;refine Iv ?_
 repeat (first|apply A6|apply Ao|apply Au|apply A7|apply An|apply Av rfl|apply Ap rfl|apply Aj rfl|(refine Ah rfl ?_;intro K' hK hP;simp only [go_sem];apply hK;(focus (simp only [go_sem];exact rfl));clear hK hP K'))
 refine Ah rfl ?_;intro K' hK hP;simp only [go_sem]
 refine⟨rfl,Qt (by omega) hx rfl,?_⟩
 apply hK;(focus (simp only [go_sem];exact rfl));clear hK hP K'
 repeat (first|apply A6|apply Ao|apply Au|apply A7|apply An|apply Av rfl|apply Ap rfl|apply Aj rfl|(refine Ah rfl ?_;intro K' hK hP;simp only [go_sem];apply hK;(focus (simp only [go_sem];exact rfl));clear hK hP K'))
 refine B9 ?_;simp only [go_sem,Tryz.results74]
def S8 (p k:Nat)(s:List UInt8)(v:Nat):List PV:=[.lit (.int .i64 (k:Int)),.lit (.int .i64 (p:Int)),.lit (.string ⟨⟨s⟩⟩),.lit (.int .i64 (v:Int))]
def W5:Option Out->PV
 |none=>.tup [.lit (.bool false),.lit (.int .i64 0)]
 |some (.bad e)=>.tup [.lit (.bool true),.lit (.int .i64 (e:Int))]
 |some (.ok _ _ _ _)=>.tup [.lit (.bool true),.lit (.int .i64 0)]
def U7 (src:ByteArray)(p:Nat)(xs:List (List PV)):Option Out->List PV
 |some (.ok k s v r)=>H9 src (src.size-r.length) (xs++[S8 p k s v])
 |_=>H9 src p xs
theorem Sg (c:UInt8):((cls c:Int) != 3) = !isLetter c:=by
 unfold cls
 cases isLetter c<;>cases isDigit c<;>cases isBlank c<;>rfl
theorem Wu {src:ByteArray}{p j:Nat}:src.extract p j=⟨⟨((bl src).drop p).take (j-p)⟩⟩:=by
 have:=Mo src p j
 rw [<- this]
theorem WE (src:ByteArray)(p:Nat)(xs:List (List PV))(hp:p<src.size)(hs:src.size<=1000000)(hx:∀ x∈xs,x.length=4)(hl:xs.length<=1000000) :
 VC Tryz.prog 97 [.ptr 0 0] [H9 src p xs] fun x σ'=>x=.ret (W5 (if isLetter src[p] then some (name ((bl src).drop p)) else none))/\σ'=[U7 src p xs (if isLetter src[p] then some (name ((bl src).drop p)) else none)]:=by
 have g1:=(getD_at src p hp).symm
 have e3:=Sg src[p]
 unfold H9
 refine VC.intro ⟨[0,2,3,4,15,24],[]⟩ Tryz.func97 rfl follows XJ (by rw [Tryz.ntmps97];exact Nat.le_of_ble_eq_true rfl) ?_;refine Iv ?_
 repeat (first|apply A6|apply Ao|apply Au|apply A7|apply An|apply Av rfl|apply Ap rfl|apply Aj rfl|(refine Ah rfl ?_;intro K' hK hP;simp only [go_sem];apply hK;(focus (simp only [go_sem];exact rfl));clear hK hP K'))
 refine Ah rfl ?_;intro K' hK hP;simp only [go_sem,g1]
 refine⟨⟨by omega,by omega⟩,?_⟩
 refine ((N9 src[p])).mono ?_;rintro _ _ ⟨rfl,rfl⟩;simp only [go_sem]
 apply hK;(focus (simp only [go_sem];exact rfl));clear hK hP K'
 cases hL:isLetter src[p] with
 |false =>
  rw [hL] at e3
  refine Ap (by simp only [go_sem,e3]) ?_
  repeat (first|apply A6|apply Ao|apply Au|apply A7|apply An|apply Av rfl|apply Ap rfl|apply Aj rfl|(refine Ah rfl ?_;intro K' hK hP;simp only [go_sem];apply hK;(focus (simp only [go_sem];exact rfl));clear hK hP K'))
  refine B9 ?_;simp only [go_sem,Tryz.results97]
  exact⟨rfl,rfl⟩
 |true =>
  rw [hL] at e3
  refine Aj (by simp only [go_sem,e3]) ?_
  repeat (first|apply A6|apply Ao|apply Au|apply A7|apply An|apply Av rfl|apply Ap rfl|apply Aj rfl|(refine Ah rfl ?_;intro K' hK hP;simp only [go_sem];apply hK;(focus (simp only [go_sem];exact rfl));clear hK hP K'))
  refine Ah rfl ?_;intro K' hK hP;simp only [go_sem]
  refine (Vn src p xs (Nat.le_of_lt hp) hs).mono ?_
  rintro _ _ ⟨rfl,j,rfl,h1,h2,h3,h4⟩
  simp only [go_sem]
  apply hK;(focus (simp only [go_sem];exact rfl));clear hK hP K'
  have hw:=h3.while h1 h4
  have hlen:=J1 src p j h1 h2
  have w1:IntKind.i64.wrap ((j:Int)-(p:Int))=((j-p:Nat):Int):=FD (by omega) (by omega)
  repeat (first|apply A6|apply Ao|apply Au|apply A7|apply An|apply Av rfl|apply Ap rfl|apply Aj rfl|(refine Ah rfl ?_;intro K' hK hP;simp only [go_sem,w1];apply hK;(focus (simp only [go_sem];exact rfl));clear hK hP K'))
  by_cases h32:32<j-p
  . have hr:name ((bl src).drop p)=.bad 2:=by unfold name;rw [hw.1,hlen,if_pos h32]
    refine Ap (by simp only [go_sem];rw [decide_eq_true (by omega)]) ?_
    repeat (first|apply A6|apply Ao|apply Au|apply A7|apply An|apply Av rfl|apply Ap rfl|apply Aj rfl|(refine Ah rfl ?_;intro K' hK hP;simp only [go_sem];apply hK;(focus (simp only [go_sem];exact rfl));clear hK hP K'))
    refine B9 ?_;simp only [go_sem,Tryz.results97]
    rw [hr]
    exact⟨rfl,rfl⟩
  . have hr:name ((bl src).drop p)=.ok 1 (((bl src).drop p).take (j-p)) 0 ((bl src).drop j):=by unfold name;rw [hw.1,hw.2,hlen,if_neg h32]
    have hq:src.size-((bl src).drop j).length=j:=by rw [List.length_drop,CL];omega
    refine Aj (by simp only [go_sem];rw [decide_eq_false (by omega)]) ?_
    repeat (first|apply A6|apply Ao|apply Au|apply A7|apply An|apply Av rfl|apply Ap rfl|apply Aj rfl|(refine Ah rfl ?_;intro K' hK hP;simp only [go_sem];apply hK;(focus (simp only [go_sem];exact rfl));clear hK hP K'))
    refine Ah rfl ?_;intro K' hK hP;simp only [go_sem]
    refine⟨⟨by omega,by omega,by omega⟩,?_⟩
    refine ((PA src p xs 1 j (src.extract p j) 0 hx hl)).mono ?_;rintro _ _ ⟨rfl,rfl⟩;simp only [go_sem]
    apply hK;(focus (simp only [go_sem];exact rfl));clear hK hP K'
    repeat (first|apply A6|apply Ao|apply Au|apply A7|apply An|apply Av rfl|apply Ap rfl|apply Aj rfl|(refine Ah rfl ?_;intro K' hK hP;simp only [go_sem];apply hK;(focus (simp only [go_sem];exact rfl));clear hK hP K'))
    refine B9 ?_;simp only [go_sem,Tryz.results97]
    rw [hr]
    refine⟨rfl,?_⟩
    show [H9 _ _ _]=[H9 _ _ _]
    rw [hq,Wu];rfl
end Go.Proofs.YtgdalmleogphgaaGreatDoor
namespace Go.Proofs.YtgdalmleogphgaaGreatDoor
open Go.RowKit Go.Q Go.Lx Go.Vl
set_option maxRecDepth 100000
variable {σ:List (List PV)}
theorem Qr {w w':World}(h:w'=w∨∃ t,w'=Lib.bytesWorld w 5 t):Below w.heap.size w w':=by
 rcases h with rfl|⟨t,rfl⟩
 . exact Below.refl _ _
 . exact⟨rfl,rfl,rfl,by rw [Lib.bytesWorld_size];omega,fun j hj=>Lib.bytesWorld_at_old w 5 t j hj⟩
theorem S0 (x:ByteArray)(hs:x.size<=1000000)(v:Int)(h:Lib.atoiAll (bl x)=.ok v):VC Tryz.prog 113 [.lit (.string x)] σ fun y σ'=>y=.ret (.tup [.lit (.int .i64 v),.lit .nilIface])/\σ'=σ :=
 VC.litNil [.string x] _ fun w _=>(Tryz.strconv_Atoi_ok x (by omega) v h w).mono fun _ _ h=>⟨h.1,Qr h.2⟩
theorem Rv (x:ByteArray)(hs:x.size<=1000000)(h:∀ v,Lib.atoiAll (bl x)≠.ok v):∃ r,VC Tryz.prog 113 [.lit (.string x)] σ fun y σ'=>y=.ret (.tup [.lit (.int .i64 r),.ifc])/\σ'=σ:=by
 cases hat:Lib.atoiAll (bl x) with
 | «syntax» =>
  refine⟨0,VC.litErr [.string x] _ fun w hg=>?_⟩
  obtain⟨ev,hev1,hev2⟩:=hg.2.1
  refine (Tryz.strconv_Atoi_syntax x (by omega) hat ev w hev1 hev2).mono ?_
  rintro e wc ⟨NN,rfl,_,_,hbc⟩
  exact⟨⟨_,_,rfl⟩,hbc⟩
 |range =>
  refine⟨Lib.atoiSat (bl x),VC.litErr [.string x] _ fun w hg=>?_⟩
  obtain⟨ev,hev1,hev2⟩:=hg.2.2
  refine (Tryz.strconv_Atoi_range x (by omega) hat ev w hev1 hev2).mono ?_
  rintro e wc ⟨NN,rfl,_,_,hbc⟩
  exact⟨⟨_,_,rfl⟩,hbc⟩
 |ok v=>exact absurd hat (h v)
theorem UW (c:UInt8):((cls c:Int) != 2) = !isDigit c:=by
 have:=@Kr c
 unfold cls
 cases h1:isLetter c<;>cases h2:isDigit c<;>cases isBlank c<;>first|rfl|simp_all
theorem QN {src:ByteArray}{p j:Nat}{xs:List (List PV)}{v:Int}(h2:j<=src.size)(hv:v=(v.toNat:Int)) :
 [H9 src j (xs++[[.lit (.int .i64 ((2:Nat):Int)),.lit (.int .i64 (p:Int)),.lit (.string ⟨#[]⟩),.lit (.int .i64 v)]])]=[U7 src p xs (some (.ok 2 [] v.toNat ((bl src).drop j)))]:=by
 show _=[H9 _ _ _]
 rw [List.length_drop,CL,show src.size-(src.size-j)=j by omega]
 unfold S8
 rw [<- hv]
theorem Ut (src:ByteArray)(p:Nat)(xs:List (List PV))(hp:p<src.size)(hs:src.size<=1000000)(hx:∀ x∈xs,x.length=4)(hl:xs.length<=1000000) :
 VC Tryz.prog 98 [.ptr 0 0] [H9 src p xs] fun x σ'=>x=.ret (W5 (if isDigit src[p] then some (number ((bl src).drop p)) else none))/\σ'=[U7 src p xs (if isDigit src[p] then some (number ((bl src).drop p)) else none)]:=by
 have g1:=(getD_at src p hp).symm
 have e3:=UW src[p]
 unfold H9
 refine VC.intro ⟨[0,2,3,4,5,6,7,18,52],[]⟩ Tryz.func98 rfl follows XI (by rw [Tryz.ntmps98];exact Nat.le_of_ble_eq_true rfl) ?_;refine Iv ?_
 repeat (first|apply A6|apply Ao|apply Au|apply A7|apply An|apply Av rfl|apply Ap rfl|apply Aj rfl|(refine Ah rfl ?_;intro K' hK hP;simp only [go_sem];apply hK;(focus (simp only [go_sem];exact rfl));clear hK hP K'))
 refine Ah rfl ?_;intro K' hK hP;simp only [go_sem,g1]
 refine⟨⟨by omega,by omega⟩,?_⟩
 refine ((N9 src[p])).mono ?_;rintro _ _ ⟨rfl,rfl⟩;simp only [go_sem]
 apply hK;(focus (simp only [go_sem];exact rfl));clear hK hP K'
 cases hL:isDigit src[p] with
 |false =>
  rw [hL] at e3
  refine Ap (by simp only [go_sem,e3]) ?_
  repeat (first|apply A6|apply Ao|apply Au|apply A7|apply An|apply Av rfl|apply Ap rfl|apply Aj rfl|(refine Ah rfl ?_;intro K' hK hP;simp only [go_sem];apply hK;(focus (simp only [go_sem];exact rfl));clear hK hP K'))
  refine B9 ?_;simp only [go_sem,Tryz.results98]
  exact⟨rfl,rfl⟩
 |true =>
  rw [hL] at e3
  refine Aj (by simp only [go_sem,e3]) ?_
  repeat (first|apply A6|apply Ao|apply Au|apply A7|apply An|apply Av rfl|apply Ap rfl|apply Aj rfl|(refine Ah rfl ?_;intro K' hK hP;simp only [go_sem];apply hK;(focus (simp only [go_sem];exact rfl));clear hK hP K'))
  refine Ah rfl ?_;intro K' hK hP;simp only [go_sem]
  refine (Vn src p xs (Nat.le_of_lt hp) hs).mono ?_
  rintro _ _ ⟨rfl,j,rfl,h1,h2,h3,h4⟩
  simp only [go_sem]
  apply hK;(focus (simp only [go_sem];exact rfl));clear hK hP K'
  have hlen:=J1 src p j h1 h2
  have hnw:=Pe hp h1 h2 h3 h4 hL
  obtain⟨x,hxe⟩:∃ x,x=src.extract p j:=⟨_,rfl⟩
  have hbx:bl x=((bl src).drop p).take (j-p):=by rw [hxe,Mo]
  have hxs:x.size=j-p:=by rw [<- CL,hbx,hlen]
  have hjp:=OJ hp h1 h3 h4 (by simp [isWord,hL])
  rw [<- hbx] at hnw
  repeat (first|apply A6|apply Ao|apply Au|apply A7|apply An|apply Av rfl|apply Ap rfl|apply Aj rfl|(refine Ah rfl ?_;intro K' hK hP;simp only [go_sem];apply hK;(focus (simp only [go_sem];exact rfl));clear hK hP K'))
  refine Ah rfl ?_;intro K' hK hP;simp only [go_sem]
  refine⟨⟨by omega,by omega,by omega⟩,?_⟩
  rw [<- hxe]
  apply hK;(focus (simp only [go_sem];exact rfl));clear hK hP K'
  repeat (first|apply A6|apply Ao|apply Au|apply A7|apply An|apply Av rfl|apply Ap rfl|apply Aj rfl|(refine Ah rfl ?_;intro K' hK hP;simp only [go_sem];apply hK;(focus (simp only [go_sem];exact rfl));clear hK hP K'))
  cases hat:Lib.atoiAll (bl x) with
  |ok v =>
   refine Ah rfl ?_;intro K' hK hP;simp only [go_sem];refine ((S0 x (by omega) v hat)).mono ?_;rintro _ _ ⟨rfl,rfl⟩;simp only [go_sem];apply hK;(focus (simp only [go_sem];exact rfl));clear hK hP K'
   have hv:=hnw.2 v hat
   have hx0:0<x.size:=by omega
   have g2:x.data.toList.getD (Int.toNat 0) 0=x[0]:=(getD_at x 0 hx0).symm
   have hf:=TJ hbx hx0 hp
   by_cases h15:15<x.size
   . have t15:decide ((15:Int)<(x.size:Int))=true:=by rw [decide_eq_true_eq];omega
     repeat (first|apply A6|apply Ao|apply Au|apply A7|apply An|apply Av rfl|apply Ap rfl|apply Aj rfl|(refine Ah rfl ?_;intro K' hK hP;simp only [go_sem,t15];apply hK;(focus (simp only [go_sem];exact rfl));clear hK hP K'))
     refine B9 ?_;simp only [go_sem,Tryz.results98]
     rw [hv.1 (.inl (by omega))]
     exact⟨rfl,rfl⟩
   . have t15:decide ((15:Int)<(x.size:Int))=false:=by rw [decide_eq_false_iff_not];omega
     by_cases h1s:1<x.size
     . have t1:decide ((1:Int)<(x.size:Int))=true:=by rw [decide_eq_true_eq];omega
       by_cases hz:x[0]=48
       . have tz:((x[0].toNat:Int) == 48)=true:=by rw [hz];rfl
         repeat (first|apply A6|apply Ao|apply Au|apply A7|apply An|apply Av rfl|apply Ap rfl|apply Aj rfl|(refine Ah rfl ?_;intro K' hK hP;simp only [go_sem,t15,t1];apply hK;(focus (simp only [go_sem];exact rfl));clear hK hP K'))
         refine Ah rfl ?_;intro K' hK hP;simp only [go_sem,t15,t1,g2,tz]
         refine⟨by omega,?_⟩
         apply hK;(focus (simp only [go_sem];exact rfl));clear hK hP K'
         repeat (first|apply A6|apply Ao|apply Au|apply A7|apply An|apply Av rfl|apply Ap rfl|apply Aj rfl|(refine Ah rfl ?_;intro K' hK hP;simp only [go_sem];apply hK;(focus (simp only [go_sem];exact rfl));clear hK hP K'))
         refine B9 ?_;simp only [go_sem,Tryz.results98]
         rw [hv.1 (.inr ⟨by omega,by rw [<- hf];exact hz⟩)]
         exact⟨rfl,rfl⟩
       . have tz:((x[0].toNat:Int) == 48)=false:=beq_eq_false_iff_ne.2 fun h=>hz ((eq_iff _ 48).2 h)
         have hn:=hv.2 (by omega) (fun h=>hz (by rw [hf];exact h.2))
         repeat (first|apply A6|apply Ao|apply Au|apply A7|apply An|apply Av rfl|apply Ap rfl|apply Aj rfl|(refine Ah rfl ?_;intro K' hK hP;simp only [go_sem,t15,t1];apply hK;(focus (simp only [go_sem];exact rfl));clear hK hP K'))
         refine Ah rfl ?_;intro K' hK hP;simp only [go_sem,t15,t1,g2,tz]
         refine⟨by omega,?_⟩
         apply hK;(focus (simp only [go_sem];exact rfl));clear hK hP K'
         repeat (first|apply A6|apply Ao|apply Au|apply A7|apply An|apply Av rfl|apply Ap rfl|apply Aj rfl|(refine Ah rfl ?_;intro K' hK hP;simp only [go_sem];apply hK;(focus (simp only [go_sem];exact rfl));clear hK hP K'))
         refine Ah rfl ?_;intro K' hK hP;simp only [go_sem];refine ((PA src p xs 2 j ⟨#[]⟩ v hx hl)).mono ?_;rintro _ _ ⟨rfl,rfl⟩;simp only [go_sem];apply hK;(focus (simp only [go_sem];exact rfl));clear hK hP K'
         repeat (first|apply A6|apply Ao|apply Au|apply A7|apply An|apply Av rfl|apply Ap rfl|apply Aj rfl|(refine Ah rfl ?_;intro K' hK hP;simp only [go_sem];apply hK;(focus (simp only [go_sem];exact rfl));clear hK hP K'))
         refine B9 ?_;simp only [go_sem,Tryz.results98]
         rw [hn.1]
         exact⟨rfl,QN h2 hn.2⟩
     . have t1:decide ((1:Int)<(x.size:Int))=false:=by rw [decide_eq_false_iff_not];omega
       have hn:=hv.2 (by omega) (fun h=>by omega)
       repeat (first|apply A6|apply Ao|apply Au|apply A7|apply An|apply Av rfl|apply Ap rfl|apply Aj rfl|(refine Ah rfl ?_;intro K' hK hP;simp only [go_sem,t15,t1];apply hK;(focus (simp only [go_sem];exact rfl));clear hK hP K'))
       refine Ah rfl ?_;intro K' hK hP;simp only [go_sem];refine ((PA src p xs 2 j ⟨#[]⟩ v hx hl)).mono ?_;rintro _ _ ⟨rfl,rfl⟩;simp only [go_sem];apply hK;(focus (simp only [go_sem];exact rfl));clear hK hP K'
       repeat (first|apply A6|apply Ao|apply Au|apply A7|apply An|apply Av rfl|apply Ap rfl|apply Aj rfl|(refine Ah rfl ?_;intro K' hK hP;simp only [go_sem];apply hK;(focus (simp only [go_sem];exact rfl));clear hK hP K'))
       refine B9 ?_;simp only [go_sem,Tryz.results98]
       rw [hn.1]
       exact⟨rfl,QN h2 hn.2⟩
  |_ =>
   obtain⟨r,hr⟩:=Rv (σ:=[H9 src p xs]) x (by omega) (fun v=>by rw [hat];simp)
   have hb:=hnw.1 (fun v=>by rw [hat];simp)
   unfold H9 at hr
   refine Ah rfl ?_;intro K' hK hP;simp only [go_sem];refine (hr).mono ?_;rintro _ _ ⟨rfl,rfl⟩;simp only [go_sem];apply hK;(focus (simp only [go_sem];exact rfl));clear hK hP K'
   repeat (first|apply A6|apply Ao|apply Au|apply A7|apply An|apply Av rfl|apply Ap rfl|apply Aj rfl|(refine Ah rfl ?_;intro K' hK hP;simp only [go_sem];apply hK;(focus (simp only [go_sem];exact rfl));clear hK hP K'))
   refine B9 ?_;simp only [go_sem,Tryz.results98]
   rw [hb]
   exact⟨rfl,rfl⟩
end Go.Proofs.YtgdalmleogphgaaGreatDoor
