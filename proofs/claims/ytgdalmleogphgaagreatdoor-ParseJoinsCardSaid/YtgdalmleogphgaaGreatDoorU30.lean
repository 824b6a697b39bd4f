/-
  The lexer's functions, walked in plain values: class, span. The lexer's functions, walked in plain values: put, name. The lexer's functions, walked in plain values: number.
-/
import Derived.Test.YtgdalmleogphgaaGreatDoorU23
import Derived.Test.YtgdalmleogphgaaGreatDoorU28
namespace Go.Proofs.YtgdalmleogphgaaGreatDoor
open Go.RowKit Go.Q Go.Lx Go.Vl
set_option maxRecDepth 100000
variable {σ:List (List PV)}
theorem vClass (c:UInt8):VC Tryz.prog 96 [.lit (.int .u8 (c.toNat:Int))] σ fun x σ'=>x=.ret (.lit (.int .i64 (cls c:Int)))/\σ'=σ :=
 VC.lits [.int .u8 (c.toNat:Int)] _ fun w _=>(lexClass c).mono fun _ _ h=>⟨h.1,by rw [h.2];exact Below.refl _ _⟩
theorem vSpan (src:ByteArray)(p:Nat)(xs:List (List PV))(hp:p<=src.size)(hs:src.size<=1000000) :
 VC Tryz.prog 112 [.ptr 0 0,.lit (.int .i64 2)] [[.lit (.string src),.lit (.int .i64 (p:Int)),.sl xs .own]] fun x σ'=>σ'=[[.lit (.string src),.lit (.int .i64 (p:Int)),.sl xs .own]] /\
  ∃ j:Nat,x=.ret (.lit (.int .i64 (j:Int)))/\p<=j/\j<=src.size/\AllIn isWord src p j/\headIs isWord ((bl src).drop j)=false:=by
 refine VC.intro ⟨[0,1,4,5,27],[]⟩ Tryz.func112 rfl follows ok112 (by rw [Tryz.ntmps112];exact Nat.le_of_ble_eq_true rfl) ?_;refine WS_of ?_
 repeat (first|refine WS_seq ?_|refine WS_block ?_|refine WS_skip ?_|refine WS_blk ?_|refine WS_label ?_|refine WS_exit rfl ?_|refine WS_true rfl ?_|refine WS_false rfl ?_|(refine WS_region rfl ?_;intro K' hK hP;simp only [go_sem];apply hK;(focus (simp only [go_sem];exact rfl));clear hK hP K'))
 refine WS_for [0,1,5] 1 (fun j:Nat=>p<=j/\j<=src.size/\AllIn isWord src p j) (fun j=>src.size-j) (fun j=>⟨[(0,.ptr 0 0),(1,.lit (.int .i64 2)),(5,.lit (.int .i64 (j:Int)))],[[.lit (.string src),.lit (.int .i64 (p:Int)),.sl xs .own]]⟩) p (Nat.le_refl _) ?_ ⟨Nat.le_refl _,hp,AllIn.nil _ _ _⟩ ?_
 . exact rfl
 rintro j ⟨h1,h2,h3⟩
 by_cases hj:j<src.size
 . have d1:decide ((j:Int)<(src.size:Int))=true:=by rw [decide_eq_true_eq];omega
   have g1:=(getD_at src j hj).symm
   have hcw:=cls_word src[j]
   repeat (first|refine WS_seq ?_|refine WS_block ?_|refine WS_skip ?_|refine WS_blk ?_|refine WS_label ?_|refine WS_exit rfl ?_|refine WS_true rfl ?_|refine WS_false rfl ?_|(refine WS_region rfl ?_;intro K' hK hP;simp only [go_sem,d1];apply hK;(focus (simp only [go_sem];exact rfl));clear hK hP K'))
   refine WS_region rfl ?_;intro K' hK hP;simp only [go_sem,d1,g1]
   refine⟨⟨by omega,by omega⟩,?_⟩
   refine ((vClass src[j])).mono ?_;rintro _ _ ⟨rfl,rfl⟩;simp only [go_sem]
   apply hK;(focus (simp only [go_sem];exact rfl));clear hK hP K'
   by_cases hw:isWord src[j]=true
   . rw [hw] at hcw
     refine WS_true (by simp only [go_sem,<- hcw]) ?_
     have w1:IntKind.i64.wrap ((j:Int)+1)=((j+1:Nat):Int):=wrapN (by omega) (by omega)
     repeat (first|refine WS_seq ?_|refine WS_block ?_|refine WS_skip ?_|refine WS_blk ?_|refine WS_label ?_|refine WS_exit rfl ?_|refine WS_true rfl ?_|refine WS_false rfl ?_|(refine WS_region rfl ?_;intro K' hK hP;simp only [go_sem,w1];apply hK;(focus (simp only [go_sem];exact rfl));clear hK hP K'))
     exact WS_again (j+1) rfl ⟨by omega,by omega,h3.succ h1 hj hw⟩ (by omega)
   . simp only [Bool.not_eq_true] at hw
     rw [hw] at hcw
     refine WS_false (by simp only [go_sem,<- hcw]) ?_
     repeat (first|refine WS_seq ?_|refine WS_block ?_|refine WS_skip ?_|refine WS_blk ?_|refine WS_label ?_|refine WS_exit rfl ?_|refine WS_true rfl ?_|refine WS_false rfl ?_|(refine WS_region rfl ?_;intro K' hK hP;simp only [go_sem];apply hK;(focus (simp only [go_sem];exact rfl));clear hK hP K'))
     refine WS_ret ?_;simp only [go_sem,Tryz.results112]
     refine⟨j,rfl,h1,h2,h3,head_at src j h2 fun _=>hw⟩
 . have d1:decide ((j:Int)<(src.size:Int))=false:=by rw [decide_eq_false_iff_not];omega
   repeat (first|refine WS_seq ?_|refine WS_block ?_|refine WS_skip ?_|refine WS_blk ?_|refine WS_label ?_|refine WS_exit rfl ?_|refine WS_true rfl ?_|refine WS_false rfl ?_|(refine WS_region rfl ?_;intro K' hK hP;simp only [go_sem,d1];apply hK;(focus (simp only [go_sem];exact rfl));clear hK hP K'))
   refine WS_ret ?_;simp only [go_sem,Tryz.results112]
   refine⟨j,rfl,h1,h2,h3,head_at src j h2 fun h=>absurd h hj⟩
theorem vIndexByte (s:ByteArray)(c:UInt8):VC Tryz.prog 95 [.lit (.string s),.lit (.int .u8 (c.toNat:Int))] σ fun x σ'=>x=.ret (.lit (.int .i64 (Lib.indexByte (bl s) c)))/\σ'=σ :=
 VC.lits [.string s,.int .u8 (c.toNat:Int)] _ fun w _=>(Tryz.strings_IndexByte s (c.toNat:Int) w).mono fun _ _ h=>⟨by rw [h.1];congr 4;simp,by rw [h.2];exact Below.refl _ _⟩
theorem vSkip (src:ByteArray)(p:Nat)(xs:List (List PV))(hp:p<=src.size)(hs:src.size<=1000000) :
 VC Tryz.prog 72 [.ptr 0 0] [[.lit (.string src),.lit (.int .i64 (p:Int)),.sl xs .own]] fun x σ'=>x=.ret (.tup [])/\σ'=[[.lit (.string src),.lit (.int .i64 ((src.size-(skip false ((bl src).drop p)).length:Nat):Int)),.sl xs .own]]:=by
 obtain⟨R,hR⟩:∃ R,skip false ((bl src).drop p)=R:=⟨_,rfl⟩
 rw [hR]
 refine VC.intro ⟨[0,2,3,13,23,37,56],[]⟩ Tryz.func72 rfl follows ok72 (by rw [Tryz.ntmps72];exact Nat.le_of_ble_eq_true rfl) ?_;refine WS_of ?_
 repeat (first|refine WS_seq ?_|refine WS_block ?_|refine WS_skip ?_|refine WS_blk ?_|refine WS_label ?_|refine WS_exit rfl ?_|refine WS_true rfl ?_|refine WS_false rfl ?_|(refine WS_region rfl ?_;intro K' hK hP;simp only [go_sem];apply hK;(focus (simp only [go_sem];exact rfl));clear hK hP K'))
 refine WS_for [0] 1 (fun j:Nat=>j<=src.size/\skip false ((bl src).drop j)=R) (fun j=>src.size-j) (fun j=>⟨[(0,.ptr 0 0)],[[.lit (.string src),.lit (.int .i64 (j:Int)),.sl xs .own]]⟩) p (Nat.le_refl _) ?_ ⟨hp,hR⟩ ?_
 . exact rfl
 rintro j ⟨h1,h2⟩
 clear hR
 by_cases hj:j<src.size
 . have d1:decide ((j:Int)<(src.size:Int))=true:=by rw [decide_eq_true_eq];omega
   have g1:=(getD_at src j hj).symm
   have hdr:=bl_drop src j hj
   repeat (first|refine WS_seq ?_|refine WS_block ?_|refine WS_skip ?_|refine WS_blk ?_|refine WS_label ?_|refine WS_exit rfl ?_|refine WS_true rfl ?_|refine WS_false rfl ?_|(refine WS_region rfl ?_;intro K' hK hP;simp only [go_sem,d1];apply hK;(focus (simp only [go_sem];exact rfl));clear hK hP K'))
   refine WS_region rfl ?_;intro K' hK hP;simp only [go_sem,g1]
   refine⟨⟨by omega,by omega⟩,?_⟩
   apply hK;(focus (simp only [go_sem];exact rfl));clear hK hP K'
   repeat (first|refine WS_seq ?_|refine WS_block ?_|refine WS_skip ?_|refine WS_blk ?_|refine WS_label ?_|refine WS_exit rfl ?_|refine WS_true rfl ?_|refine WS_false rfl ?_|(refine WS_region rfl ?_;intro K' hK hP;simp only [go_sem];apply hK;(focus (simp only [go_sem];exact rfl));clear hK hP K'))
   by_cases h35:(src[j].toNat:Int)=35
   . have b35:decide ((src[j].toNat:Int)=35)=true:=decide_eq_true h35
     have hR1:skip true ((bl src).drop j)=R:=by rw [<- h2,hdr,skip_false_sharp ((eq_iff src[j] 35).2 h35),skip_true_stay (by rw [(eq_iff src[j] 35).2 h35];decide)]
     have HX:bl (src.extract j src.size)=(bl src).drop j:=by rw [bl_ext,List.take_of_length_le (by rw [List.length_drop,bl_len];exact Nat.le_refl _)]
     have hix:=idx_feed ((bl src).drop j)
     have hz0:Lib.indexByte ((bl src).drop j) 10≠0:=by rw [hdr,(eq_iff src[j] 35).2 h35];exact idx_ne
     have hcall:=vIndexByte (σ:=[[.lit (.string src),.lit (.int .i64 (j:Int)),.sl xs .own]]) (src.extract j src.size) 10
     rw [HX] at hcall
     obtain⟨z,hz⟩:∃ z,z=Lib.indexByte ((bl src).drop j) 10:=⟨_,rfl⟩
     rw [<- hz] at hix hz0 hcall
     have hzge : -1<=z:=by rw [hz];exact Lib.indexByte_ge _ _
     refine WS_true (by simp only [go_sem];rw [h35];rfl) ?_
     repeat (first|refine WS_seq ?_|refine WS_block ?_|refine WS_skip ?_|refine WS_blk ?_|refine WS_label ?_|refine WS_exit rfl ?_|refine WS_true rfl ?_|refine WS_false rfl ?_|(refine WS_region rfl ?_;intro K' hK hP;simp only [go_sem];apply hK;(focus (simp only [go_sem];exact rfl));clear hK hP K'))
     refine WS_region rfl ?_;intro K' hK hP;simp only [go_sem]
     refine⟨⟨by omega,by omega,by omega⟩,?_⟩
     refine (hcall).mono ?_;rintro _ _ ⟨rfl,rfl⟩;simp only [go_sem]
     apply hK;(focus (simp only [go_sem];exact rfl));clear hK hP K'
     repeat (first|refine WS_seq ?_|refine WS_block ?_|refine WS_skip ?_|refine WS_blk ?_|refine WS_label ?_|refine WS_exit rfl ?_|refine WS_true rfl ?_|refine WS_false rfl ?_|(refine WS_region rfl ?_;intro K' hK hP;simp only [go_sem];apply hK;(focus (simp only [go_sem];exact rfl));clear hK hP K'))
     by_cases hzn:z<0
     . have tz:decide (z<0)=true:=decide_eq_true hzn
       refine WS_true (by simp only [go_sem,tz]) ?_
       have w1:IntKind.i64.wrap ((src.size:Int)-(j:Int))=((src.size-j:Nat):Int):=wrapN (by omega) (by omega)
       have w2:IntKind.i64.wrap ((j:Int)+((src.size-j:Nat):Int))=(src.size:Int):=wrapN (by omega) (by omega)
       repeat (first|refine WS_seq ?_|refine WS_block ?_|refine WS_skip ?_|refine WS_blk ?_|refine WS_label ?_|refine WS_exit rfl ?_|refine WS_true rfl ?_|refine WS_false rfl ?_|(refine WS_region rfl ?_;intro K' hK hP;simp only [go_sem,w1,w2];apply hK;(focus (simp only [go_sem];exact rfl));clear hK hP K'))
       exact WS_again src.size rfl ⟨Nat.le_refl _,by rw [<- hR1,hix.1 hzn,bl_end];rfl⟩ (by omega)
     . have tz:decide (z<0)=false:=decide_eq_false hzn
       refine WS_false (by simp only [go_sem,tz]) ?_
       obtain⟨k,rfl⟩:∃ k:Nat,z=(k:Int):=⟨z.toNat,by omega⟩
       obtain⟨hk1,hk2⟩:=hix.2 k rfl
       rw [List.length_drop,bl_len] at hk1
       have hk0:0<k:=by omega
       have w1:IntKind.i64.wrap ((j:Int)+(k:Int))=((j+k:Nat):Int):=wrapN (by omega) (by omega)
       repeat (first|refine WS_seq ?_|refine WS_block ?_|refine WS_skip ?_|refine WS_blk ?_|refine WS_label ?_|refine WS_exit rfl ?_|refine WS_true rfl ?_|refine WS_false rfl ?_|(refine WS_region rfl ?_;intro K' hK hP;simp only [go_sem,w1];apply hK;(focus (simp only [go_sem];exact rfl));clear hK hP K'))
       exact WS_again (j+k) rfl ⟨by omega,by rw [<- hR1,hk2,List.drop_drop]⟩ (by omega)
   . have b35:((src[j].toNat:Int) == 35)=false:=by simpa using h35
     refine WS_false (by simp only [go_sem,b35]) ?_
     repeat (first|refine WS_seq ?_|refine WS_block ?_|refine WS_skip ?_|refine WS_blk ?_|refine WS_label ?_|refine WS_exit rfl ?_|refine WS_true rfl ?_|refine WS_false rfl ?_|(refine WS_region rfl ?_;intro K' hK hP;simp only [go_sem];apply hK;(focus (simp only [go_sem];exact rfl));clear hK hP K'))
     refine WS_region rfl ?_;intro K' hK hP;simp only [go_sem];refine ((vClass src[j])).mono ?_;rintro _ _ ⟨rfl,rfl⟩;simp only [go_sem];apply hK;(focus (simp only [go_sem];exact rfl));clear hK hP K'
     by_cases hb:isBlank src[j]=true
     . have hc1:=cls_blank _ hb
       refine WS_true (by simp only [go_sem,hc1];rfl) ?_
       have w1:IntKind.i64.wrap ((j:Int)+1)=((j+1:Nat):Int):=wrapN (by omega) (by omega)
       repeat (first|refine WS_seq ?_|refine WS_block ?_|refine WS_skip ?_|refine WS_blk ?_|refine WS_label ?_|refine WS_exit rfl ?_|refine WS_true rfl ?_|refine WS_false rfl ?_|(refine WS_region rfl ?_;intro K' hK hP;simp only [go_sem,w1];apply hK;(focus (simp only [go_sem];exact rfl));clear hK hP K'))
       exact WS_again (j+1) rfl ⟨by omega,by rw [<- h2,hdr,skip_false_blank hb]⟩ (by omega)
     . simp only [Bool.not_eq_true] at hb
       have hc1:=cls_not_blank _ hb
       refine WS_false (by simp only [go_sem,hc1]) ?_
       have e:src.size-R.length=j:=by
        rw [<- h2,hdr,skip_false_cons,hb,if_neg (by simp),if_neg (fun h=>h35 ((eq_iff src[j] 35).1 h)),<- hdr,List.length_drop,bl_len];omega
       refine WS_ret ?_;simp only [go_sem,e,Tryz.results72]
 . have d1:decide ((j:Int)<(src.size:Int))=false:=by rw [decide_eq_false_iff_not];omega
   repeat (first|refine WS_seq ?_|refine WS_block ?_|refine WS_skip ?_|refine WS_blk ?_|refine WS_label ?_|refine WS_exit rfl ?_|refine WS_true rfl ?_|refine WS_false rfl ?_|(refine WS_region rfl ?_;intro K' hK hP;simp only [go_sem,d1];apply hK;(focus (simp only [go_sem];exact rfl));clear hK hP K'))
   obtain rfl:j=src.size:=by omega
   rw [bl_end] at h2
   have e:src.size-R.length=src.size:=by rw [<- h2];rfl
   refine WS_nil ?_
   simp only [go_sem,Tryz.results72,e]
end Go.Proofs.YtgdalmleogphgaaGreatDoor
namespace Go.Proofs.YtgdalmleogphgaaGreatDoor
open Go.RowKit Go.Q Go.Lx Go.Vl
set_option maxRecDepth 100000
theorem app_ok {p:Prop}[Decidable p]{xs ys:List (List PV)}{sz:Nat}(h:p)(hx:∀ x∈xs,x.length=sz)(hy:(ys.all fun x=>x.length == sz)=true):(decide p&&((xs.all fun x=>x.length == sz)&&(ys.all fun x=>x.length == sz)))=true:=by
 rw [decide_eq_true h,hy,Bool.true_and,Bool.and_true,List.all_eq_true]
 exact fun x h=>beq_iff_eq.2 (hx x h)
def rdP (src:ByteArray)(p:Nat)(xs:List (List PV)):List PV:=[.lit (.string src),.lit (.int .i64 (p:Int)),.sl xs .own]
theorem vPut (src:ByteArray)(p:Nat)(xs:List (List PV))(kind q:Nat)(str:ByteArray)(n:Int)(hx:∀ x∈xs,x.length=4)(hl:xs.length<=1000000) :
 VC Tryz.prog 74 [.ptr 0 0,.lit (.int .i64 (kind:Int)),.lit (.int .i64 (q:Int)),.lit (.string str),.lit (.int .i64 n)] [rdP src p xs] fun x σ'=>x=.ret (.lit (.int .i64 0))/\σ'=[rdP src q (xs++[[.lit (.int .i64 (kind:Int)),.lit (.int .i64 (p:Int)),.lit (.string str),.lit (.int .i64 n)]])]:=by
 unfold rdP
 refine VC.intro ⟨[0,1,2,3,4,10],[]⟩ Tryz.func74 rfl follows ok74 (by rw [Tryz.ntmps74];exact Nat.le_of_ble_eq_true rfl) ?_;refine WS_of ?_
 repeat (first|refine WS_seq ?_|refine WS_block ?_|refine WS_skip ?_|refine WS_blk ?_|refine WS_label ?_|refine WS_exit rfl ?_|refine WS_true rfl ?_|refine WS_false rfl ?_|(refine WS_region rfl ?_;intro K' hK hP;simp only [go_sem];apply hK;(focus (simp only [go_sem];exact rfl));clear hK hP K'))
 refine WS_region rfl ?_;intro K' hK hP;simp only [go_sem]
 refine⟨rfl,app_ok (by omega) hx rfl,?_⟩
 apply hK;(focus (simp only [go_sem];exact rfl));clear hK hP K'
 repeat (first|refine WS_seq ?_|refine WS_block ?_|refine WS_skip ?_|refine WS_blk ?_|refine WS_label ?_|refine WS_exit rfl ?_|refine WS_true rfl ?_|refine WS_false rfl ?_|(refine WS_region rfl ?_;intro K' hK hP;simp only [go_sem];apply hK;(focus (simp only [go_sem];exact rfl));clear hK hP K'))
 refine WS_ret ?_;simp only [go_sem,Tryz.results74]
def tkRow (p k:Nat)(s:List UInt8)(v:Nat):List PV:=[.lit (.int .i64 (k:Int)),.lit (.int .i64 (p:Int)),.lit (.string ⟨⟨s⟩⟩),.lit (.int .i64 (v:Int))]
def rdR:Option Out->PV
 |none=>.tup [.lit (.bool false),.lit (.int .i64 0)]
 |some (.bad e)=>.tup [.lit (.bool true),.lit (.int .i64 (e:Int))]
 |some (.ok _ _ _ _)=>.tup [.lit (.bool true),.lit (.int .i64 0)]
def rdS (src:ByteArray)(p:Nat)(xs:List (List PV)):Option Out->List PV
 |some (.ok k s v r)=>rdP src (src.size-r.length) (xs++[tkRow p k s v])
 |_=>rdP src p xs
theorem cls_three (c:UInt8):((cls c:Int) != 3) = !isLetter c:=by
 unfold cls
 cases isLetter c<;>cases isDigit c<;>cases isBlank c<;>rfl
theorem ext_eq {src:ByteArray}{p j:Nat}:src.extract p j=⟨⟨((bl src).drop p).take (j-p)⟩⟩:=by
 have:=bl_ext src p j
 rw [<- this]
theorem vName (src:ByteArray)(p:Nat)(xs:List (List PV))(hp:p<src.size)(hs:src.size<=1000000)(hx:∀ x∈xs,x.length=4)(hl:xs.length<=1000000) :
 VC Tryz.prog 97 [.ptr 0 0] [rdP src p xs] fun x σ'=>x=.ret (rdR (if isLetter src[p] then some (name ((bl src).drop p)) else none))/\σ'=[rdS src p xs (if isLetter src[p] then some (name ((bl src).drop p)) else none)]:=by
 have g1:=(getD_at src p hp).symm
 have e3:=cls_three src[p]
 unfold rdP
 refine VC.intro ⟨[0,2,3,4,15,24],[]⟩ Tryz.func97 rfl follows ok97 (by rw [Tryz.ntmps97];exact Nat.le_of_ble_eq_true rfl) ?_;refine WS_of ?_
 repeat (first|refine WS_seq ?_|refine WS_block ?_|refine WS_skip ?_|refine WS_blk ?_|refine WS_label ?_|refine WS_exit rfl ?_|refine WS_true rfl ?_|refine WS_false rfl ?_|(refine WS_region rfl ?_;intro K' hK hP;simp only [go_sem];apply hK;(focus (simp only [go_sem];exact rfl));clear hK hP K'))
 refine WS_region rfl ?_;intro K' hK hP;simp only [go_sem,g1]
 refine⟨⟨by omega,by omega⟩,?_⟩
 refine ((vClass src[p])).mono ?_;rintro _ _ ⟨rfl,rfl⟩;simp only [go_sem]
 apply hK;(focus (simp only [go_sem];exact rfl));clear hK hP K'
 cases hL:isLetter src[p] with
 |false =>
  rw [hL] at e3
  refine WS_true (by simp only [go_sem,e3]) ?_
  repeat (first|refine WS_seq ?_|refine WS_block ?_|refine WS_skip ?_|refine WS_blk ?_|refine WS_label ?_|refine WS_exit rfl ?_|refine WS_true rfl ?_|refine WS_false rfl ?_|(refine WS_region rfl ?_;intro K' hK hP;simp only [go_sem];apply hK;(focus (simp only [go_sem];exact rfl));clear hK hP K'))
  refine WS_ret ?_;simp only [go_sem,Tryz.results97]
  exact⟨rfl,rfl⟩
 |true =>
  rw [hL] at e3
  refine WS_false (by simp only [go_sem,e3]) ?_
  repeat (first|refine WS_seq ?_|refine WS_block ?_|refine WS_skip ?_|refine WS_blk ?_|refine WS_label ?_|refine WS_exit rfl ?_|refine WS_true rfl ?_|refine WS_false rfl ?_|(refine WS_region rfl ?_;intro K' hK hP;simp only [go_sem];apply hK;(focus (simp only [go_sem];exact rfl));clear hK hP K'))
  refine WS_region rfl ?_;intro K' hK hP;simp only [go_sem]
  refine (vSpan src p xs (Nat.le_of_lt hp) hs).mono ?_
  rintro _ _ ⟨rfl,j,rfl,h1,h2,h3,h4⟩
  simp only [go_sem]
  apply hK;(focus (simp only [go_sem];exact rfl));clear hK hP K'
  have hw:=h3.while h1 h4
  have hlen:=take_len src p j h1 h2
  have w1:IntKind.i64.wrap ((j:Int)-(p:Int))=((j-p:Nat):Int):=wrapN (by omega) (by omega)
  repeat (first|refine WS_seq ?_|refine WS_block ?_|refine WS_skip ?_|refine WS_blk ?_|refine WS_label ?_|refine WS_exit rfl ?_|refine WS_true rfl ?_|refine WS_false rfl ?_|(refine WS_region rfl ?_;intro K' hK hP;simp only [go_sem,w1];apply hK;(focus (simp only [go_sem];exact rfl));clear hK hP K'))
  by_cases h32:32<j-p
  . have hr:name ((bl src).drop p)=.bad 2:=by unfold name;rw [hw.1,hlen,if_pos h32]
    refine WS_true (by simp only [go_sem];rw [decide_eq_true (by omega)]) ?_
    repeat (first|refine WS_seq ?_|refine WS_block ?_|refine WS_skip ?_|refine WS_blk ?_|refine WS_label ?_|refine WS_exit rfl ?_|refine WS_true rfl ?_|refine WS_false rfl ?_|(refine WS_region rfl ?_;intro K' hK hP;simp only [go_sem];apply hK;(focus (simp only [go_sem];exact rfl));clear hK hP K'))
    refine WS_ret ?_;simp only [go_sem,Tryz.results97]
    rw [hr]
    exact⟨rfl,rfl⟩
  . have hr:name ((bl src).drop p)=.ok 1 (((bl src).drop p).take (j-p)) 0 ((bl src).drop j):=by unfold name;rw [hw.1,hw.2,hlen,if_neg h32]
    have hq:src.size-((bl src).drop j).length=j:=by rw [List.length_drop,bl_len];omega
    refine WS_false (by simp only [go_sem];rw [decide_eq_false (by omega)]) ?_
    repeat (first|refine WS_seq ?_|refine WS_block ?_|refine WS_skip ?_|refine WS_blk ?_|refine WS_label ?_|refine WS_exit rfl ?_|refine WS_true rfl ?_|refine WS_false rfl ?_|(refine WS_region rfl ?_;intro K' hK hP;simp only [go_sem];apply hK;(focus (simp only [go_sem];exact rfl));clear hK hP K'))
    refine WS_region rfl ?_;intro K' hK hP;simp only [go_sem]
    refine⟨⟨by omega,by omega,by omega⟩,?_⟩
    refine ((vPut src p xs 1 j (src.extract p j) 0 hx hl)).mono ?_;rintro _ _ ⟨rfl,rfl⟩;simp only [go_sem]
    apply hK;(focus (simp only [go_sem];exact rfl));clear hK hP K'
    repeat (first|refine WS_seq ?_|refine WS_block ?_|refine WS_skip ?_|refine WS_blk ?_|refine WS_label ?_|refine WS_exit rfl ?_|refine WS_true rfl ?_|refine WS_false rfl ?_|(refine WS_region rfl ?_;intro K' hK hP;simp only [go_sem];apply hK;(focus (simp only [go_sem];exact rfl));clear hK hP K'))
    refine WS_ret ?_;simp only [go_sem,Tryz.results97]
    rw [hr]
    refine⟨rfl,?_⟩
    show [rdP _ _ _]=[rdP _ _ _]
    rw [hq,ext_eq];rfl
end Go.Proofs.YtgdalmleogphgaaGreatDoor
namespace Go.Proofs.YtgdalmleogphgaaGreatDoor
open Go.RowKit Go.Q Go.Lx Go.Vl
set_option maxRecDepth 100000
variable {σ:List (List PV)}
theorem atoi_below {w w':World}(h:w'=w∨∃ t,w'=Lib.bytesWorld w 5 t):Below w.heap.size w w':=by
 rcases h with rfl|⟨t,rfl⟩
 . exact Below.refl _ _
 . exact⟨rfl,rfl,rfl,by rw [Lib.bytesWorld_size];omega,fun j hj=>Lib.bytesWorld_at_old w 5 t j hj⟩
theorem vAtoi_ok (x:ByteArray)(hs:x.size<=1000000)(v:Int)(h:Lib.atoiAll (bl x)=.ok v):VC Tryz.prog 113 [.lit (.string x)] σ fun y σ'=>y=.ret (.tup [.lit (.int .i64 v),.lit .nilIface])/\σ'=σ :=
 VC.litNil [.string x] _ fun w _=>(Tryz.strconv_Atoi_ok x (by omega) v h w).mono fun _ _ h=>⟨h.1,atoi_below h.2⟩
theorem vAtoi_bad (x:ByteArray)(hs:x.size<=1000000)(h:∀ v,Lib.atoiAll (bl x)≠.ok v):∃ r,VC Tryz.prog 113 [.lit (.string x)] σ fun y σ'=>y=.ret (.tup [.lit (.int .i64 r),.ifc])/\σ'=σ:=by
 cases hat:Lib.atoiAll (bl x) with
 | «syntax» =>
  refine⟨0,VC.litErr [.string x] _ fun w hg=>?_⟩
  obtain⟨ev,hev1,hev2⟩:=hg.2.1
  refine (Tryz.strconv_Atoi_syntax x (by omega) hat ev w hev1 hev2).mono ?_
  rintro e wc ⟨NN,rfl,_,_,hbc⟩
  exact⟨⟨_,_,rfl⟩,hbc⟩
 |range =>
  refine⟨Lib.atoiSat (bl x),VC.litErr [.string x] _ fun w hg=>?_⟩
  obtain⟨ev,hev1,hev2⟩:=hg.2.2
  refine (Tryz.strconv_Atoi_range x (by omega) hat ev w hev1 hev2).mono ?_
  rintro e wc ⟨NN,rfl,_,_,hbc⟩
  exact⟨⟨_,_,rfl⟩,hbc⟩
 |ok v=>exact absurd hat (h v)
theorem cls_two (c:UInt8):((cls c:Int) != 2) = !isDigit c:=by
 have:=@digit_not_letter c
 unfold cls
 cases h1:isLetter c<;>cases h2:isDigit c<;>cases isBlank c<;>first|rfl|simp_all
theorem num_end {src:ByteArray}{p j:Nat}{xs:List (List PV)}{v:Int}(h2:j<=src.size)(hv:v=(v.toNat:Int)) :
 [rdP src j (xs++[[.lit (.int .i64 ((2:Nat):Int)),.lit (.int .i64 (p:Int)),.lit (.string ⟨#[]⟩),.lit (.int .i64 v)]])]=[rdS src p xs (some (.ok 2 [] v.toNat ((bl src).drop j)))]:=by
 show _=[rdP _ _ _]
 rw [List.length_drop,bl_len,show src.size-(src.size-j)=j by omega]
 unfold tkRow
 rw [<- hv]
theorem vNumber (src:ByteArray)(p:Nat)(xs:List (List PV))(hp:p<src.size)(hs:src.size<=1000000)(hx:∀ x∈xs,x.length=4)(hl:xs.length<=1000000) :
 VC Tryz.prog 98 [.ptr 0 0] [rdP src p xs] fun x σ'=>x=.ret (rdR (if isDigit src[p] then some (number ((bl src).drop p)) else none))/\σ'=[rdS src p xs (if isDigit src[p] then some (number ((bl src).drop p)) else none)]:=by
 have g1:=(getD_at src p hp).symm
 have e3:=cls_two src[p]
 unfold rdP
 refine VC.intro ⟨[0,2,3,4,5,6,7,18,52],[]⟩ Tryz.func98 rfl follows ok98 (by rw [Tryz.ntmps98];exact Nat.le_of_ble_eq_true rfl) ?_;refine WS_of ?_
 repeat (first|refine WS_seq ?_|refine WS_block ?_|refine WS_skip ?_|refine WS_blk ?_|refine WS_label ?_|refine WS_exit rfl ?_|refine WS_true rfl ?_|refine WS_false rfl ?_|(refine WS_region rfl ?_;intro K' hK hP;simp only [go_sem];apply hK;(focus (simp only [go_sem];exact rfl));clear hK hP K'))
 refine WS_region rfl ?_;intro K' hK hP;simp only [go_sem,g1]
 refine⟨⟨by omega,by omega⟩,?_⟩
 refine ((vClass src[p])).mono ?_;rintro _ _ ⟨rfl,rfl⟩;simp only [go_sem]
 apply hK;(focus (simp only [go_sem];exact rfl));clear hK hP K'
 cases hL:isDigit src[p] with
 |false =>
  rw [hL] at e3
  refine WS_true (by simp only [go_sem,e3]) ?_
  repeat (first|refine WS_seq ?_|refine WS_block ?_|refine WS_skip ?_|refine WS_blk ?_|refine WS_label ?_|refine WS_exit rfl ?_|refine WS_true rfl ?_|refine WS_false rfl ?_|(refine WS_region rfl ?_;intro K' hK hP;simp only [go_sem];apply hK;(focus (simp only [go_sem];exact rfl));clear hK hP K'))
  refine WS_ret ?_;simp only [go_sem,Tryz.results98]
  exact⟨rfl,rfl⟩
 |true =>
  rw [hL] at e3
  refine WS_false (by simp only [go_sem,e3]) ?_
  repeat (first|refine WS_seq ?_|refine WS_block ?_|refine WS_skip ?_|refine WS_blk ?_|refine WS_label ?_|refine WS_exit rfl ?_|refine WS_true rfl ?_|refine WS_false rfl ?_|(refine WS_region rfl ?_;intro K' hK hP;simp only [go_sem];apply hK;(focus (simp only [go_sem];exact rfl));clear hK hP K'))
  refine WS_region rfl ?_;intro K' hK hP;simp only [go_sem]
  refine (vSpan src p xs (Nat.le_of_lt hp) hs).mono ?_
  rintro _ _ ⟨rfl,j,rfl,h1,h2,h3,h4⟩
  simp only [go_sem]
  apply hK;(focus (simp only [go_sem];exact rfl));clear hK hP K'
  have hlen:=take_len src p j h1 h2
  have hnw:=number_word hp h1 h2 h3 h4 hL
  obtain⟨x,hxe⟩:∃ x,x=src.extract p j:=⟨_,rfl⟩
  have hbx:bl x=((bl src).drop p).take (j-p):=by rw [hxe,bl_ext]
  have hxs:x.size=j-p:=by rw [<- bl_len,hbx,hlen]
  have hjp:=span_pos hp h1 h3 h4 (by simp [isWord,hL])
  rw [<- hbx] at hnw
  repeat (first|refine WS_seq ?_|refine WS_block ?_|refine WS_skip ?_|refine WS_blk ?_|refine WS_label ?_|refine WS_exit rfl ?_|refine WS_true rfl ?_|refine WS_false rfl ?_|(refine WS_region rfl ?_;intro K' hK hP;simp only [go_sem];apply hK;(focus (simp only [go_sem];exact rfl));clear hK hP K'))
  refine WS_region rfl ?_;intro K' hK hP;simp only [go_sem]
  refine⟨⟨by omega,by omega,by omega⟩,?_⟩
  rw [<- hxe]
  apply hK;(focus (simp only [go_sem];exact rfl));clear hK hP K'
  repeat (first|refine WS_seq ?_|refine WS_block ?_|refine WS_skip ?_|refine WS_blk ?_|refine WS_label ?_|refine WS_exit rfl ?_|refine WS_true rfl ?_|refine WS_false rfl ?_|(refine WS_region rfl ?_;intro K' hK hP;simp only [go_sem];apply hK;(focus (simp only [go_sem];exact rfl));clear hK hP K'))
  cases hat:Lib.atoiAll (bl x) with
  |ok v =>
   refine WS_region rfl ?_;intro K' hK hP;simp only [go_sem];refine ((vAtoi_ok x (by omega) v hat)).mono ?_;rintro _ _ ⟨rfl,rfl⟩;simp only [go_sem];apply hK;(focus (simp only [go_sem];exact rfl));clear hK hP K'
   have hv:=hnw.2 v hat
   have hx0:0<x.size:=by omega
   have g2:x.data.toList.getD (Int.toNat 0) 0=x[0]:=(getD_at x 0 hx0).symm
   have hf:=first_eq hbx hx0 hp
   by_cases h15:15<x.size
   . have t15:decide ((15:Int)<(x.size:Int))=true:=by rw [decide_eq_true_eq];omega
     repeat (first|refine WS_seq ?_|refine WS_block ?_|refine WS_skip ?_|refine WS_blk ?_|refine WS_label ?_|refine WS_exit rfl ?_|refine WS_true rfl ?_|refine WS_false rfl ?_|(refine WS_region rfl ?_;intro K' hK hP;simp only [go_sem,t15];apply hK;(focus (simp only [go_sem];exact rfl));clear hK hP K'))
     refine WS_ret ?_;simp only [go_sem,Tryz.results98]
     rw [hv.1 (.inl (by omega))]
     exact⟨rfl,rfl⟩
   . have t15:decide ((15:Int)<(x.size:Int))=false:=by rw [decide_eq_false_iff_not];omega
     by_cases h1s:1<x.size
     . have t1:decide ((1:Int)<(x.size:Int))=true:=by rw [decide_eq_true_eq];omega
       by_cases hz:x[0]=48
       . have tz:((x[0].toNat:Int) == 48)=true:=by rw [hz];rfl
         repeat (first|refine WS_seq ?_|refine WS_block ?_|refine WS_skip ?_|refine WS_blk ?_|refine WS_label ?_|refine WS_exit rfl ?_|refine WS_true rfl ?_|refine WS_false rfl ?_|(refine WS_region rfl ?_;intro K' hK hP;simp only [go_sem,t15,t1];apply hK;(focus (simp only [go_sem];exact rfl));clear hK hP K'))
         refine WS_region rfl ?_;intro K' hK hP;simp only [go_sem,t15,t1,g2,tz]
         refine⟨by omega,?_⟩
         apply hK;(focus (simp only [go_sem];exact rfl));clear hK hP K'
         repeat (first|refine WS_seq ?_|refine WS_block ?_|refine WS_skip ?_|refine WS_blk ?_|refine WS_label ?_|refine WS_exit rfl ?_|refine WS_true rfl ?_|refine WS_false rfl ?_|(refine WS_region rfl ?_;intro K' hK hP;simp only [go_sem];apply hK;(focus (simp only [go_sem];exact rfl));clear hK hP K'))
         refine WS_ret ?_;simp only [go_sem,Tryz.results98]
         rw [hv.1 (.inr ⟨by omega,by rw [<- hf];exact hz⟩)]
         exact⟨rfl,rfl⟩
       . have tz:((x[0].toNat:Int) == 48)=false:=beq_eq_false_iff_ne.2 fun h=>hz ((eq_iff _ 48).2 h)
         have hn:=hv.2 (by omega) (fun h=>hz (by rw [hf];exact h.2))
         repeat (first|refine WS_seq ?_|refine WS_block ?_|refine WS_skip ?_|refine WS_blk ?_|refine WS_label ?_|refine WS_exit rfl ?_|refine WS_true rfl ?_|refine WS_false rfl ?_|(refine WS_region rfl ?_;intro K' hK hP;simp only [go_sem,t15,t1];apply hK;(focus (simp only [go_sem];exact rfl));clear hK hP K'))
         refine WS_region rfl ?_;intro K' hK hP;simp only [go_sem,t15,t1,g2,tz]
         refine⟨by omega,?_⟩
         apply hK;(focus (simp only [go_sem];exact rfl));clear hK hP K'
         repeat (first|refine WS_seq ?_|refine WS_block ?_|refine WS_skip ?_|refine WS_blk ?_|refine WS_label ?_|refine WS_exit rfl ?_|refine WS_true rfl ?_|refine WS_false rfl ?_|(refine WS_region rfl ?_;intro K' hK hP;simp only [go_sem];apply hK;(focus (simp only [go_sem];exact rfl));clear hK hP K'))
         refine WS_region rfl ?_;intro K' hK hP;simp only [go_sem];refine ((vPut src p xs 2 j ⟨#[]⟩ v hx hl)).mono ?_;rintro _ _ ⟨rfl,rfl⟩;simp only [go_sem];apply hK;(focus (simp only [go_sem];exact rfl));clear hK hP K'
         repeat (first|refine WS_seq ?_|refine WS_block ?_|refine WS_skip ?_|refine WS_blk ?_|refine WS_label ?_|refine WS_exit rfl ?_|refine WS_true rfl ?_|refine WS_false rfl ?_|(refine WS_region rfl ?_;intro K' hK hP;simp only [go_sem];apply hK;(focus (simp only [go_sem];exact rfl));clear hK hP K'))
         refine WS_ret ?_;simp only [go_sem,Tryz.results98]
         rw [hn.1]
         exact⟨rfl,num_end h2 hn.2⟩
     . have t1:decide ((1:Int)<(x.size:Int))=false:=by rw [decide_eq_false_iff_not];omega
       have hn:=hv.2 (by omega) (fun h=>by omega)
       repeat (first|refine WS_seq ?_|refine WS_block ?_|refine WS_skip ?_|refine WS_blk ?_|refine WS_label ?_|refine WS_exit rfl ?_|refine WS_true rfl ?_|refine WS_false rfl ?_|(refine WS_region rfl ?_;intro K' hK hP;simp only [go_sem,t15,t1];apply hK;(focus (simp only [go_sem];exact rfl));clear hK hP K'))
       refine WS_region rfl ?_;intro K' hK hP;simp only [go_sem];refine ((vPut src p xs 2 j ⟨#[]⟩ v hx hl)).mono ?_;rintro _ _ ⟨rfl,rfl⟩;simp only [go_sem];apply hK;(focus (simp only [go_sem];exact rfl));clear hK hP K'
       repeat (first|refine WS_seq ?_|refine WS_block ?_|refine WS_skip ?_|refine WS_blk ?_|refine WS_label ?_|refine WS_exit rfl ?_|refine WS_true rfl ?_|refine WS_false rfl ?_|(refine WS_region rfl ?_;intro K' hK hP;simp only [go_sem];apply hK;(focus (simp only [go_sem];exact rfl));clear hK hP K'))
       refine WS_ret ?_;simp only [go_sem,Tryz.results98]
       rw [hn.1]
       exact⟨rfl,num_end h2 hn.2⟩
  |_ =>
   obtain⟨r,hr⟩:=vAtoi_bad (σ:=[rdP src p xs]) x (by omega) (fun v=>by rw [hat];simp)
   have hb:=hnw.1 (fun v=>by rw [hat];simp)
   unfold rdP at hr
   refine WS_region rfl ?_;intro K' hK hP;simp only [go_sem];refine (hr).mono ?_;rintro _ _ ⟨rfl,rfl⟩;simp only [go_sem];apply hK;(focus (simp only [go_sem];exact rfl));clear hK hP K'
   repeat (first|refine WS_seq ?_|refine WS_block ?_|refine WS_skip ?_|refine WS_blk ?_|refine WS_label ?_|refine WS_exit rfl ?_|refine WS_true rfl ?_|refine WS_false rfl ?_|(refine WS_region rfl ?_;intro K' hK hP;simp only [go_sem];apply hK;(focus (simp only [go_sem];exact rfl));clear hK hP K'))
   refine WS_ret ?_;simp only [go_sem,Tryz.results98]
   rw [hb]
   exact⟨rfl,rfl⟩
end Go.Proofs.YtgdalmleogphgaaGreatDoor
