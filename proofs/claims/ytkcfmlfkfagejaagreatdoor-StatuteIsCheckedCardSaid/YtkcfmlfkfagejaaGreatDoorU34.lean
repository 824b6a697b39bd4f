/-
  The lexer's functions, walked in plain values: text. The lexer's functions, walked in plain values: sign.
-/
import Derived.Test.YtkcfmlfkfagejaaGreatDoorU33
set_option linter.unusedVariables false
set_option linter.unusedSimpArgs false
namespace Go.Proofs.YtkcfmlfkfagejaaGreatDoor
open Go.RowKit Go.Q Go.Lx Go.Vl
set_option maxRecDepth 100000
variable {σ:List (List PV)}
def JN (b:List UInt8):List (List PV):=b.map fun c=>[.lit (.int .u8 (c.toNat:Int))]
theorem U0 (b:List UInt8):(JN b).length=b.length:=by simp [JN]
theorem Pp (b:List UInt8)(c:UInt8):JN b++[[.lit (.int .u8 (c.toNat:Int))]]=JN (b++[c]):=by simp [JN]
theorem Po {b:List UInt8}:∀ x∈JN b,x.length=1:=by
 intro x hx
 obtain⟨c,_,rfl⟩:=List.mem_map.1 hx
 rfl
theorem MQ:∀ (b:List UInt8),bytesOf (JN b)=some (b.map fun c=>(c.toNat:Int))
 | []=>rfl
 |c::b=>by
  show (bytesOf (JN b)).map ((c.toNat:Int)::·)=_
  rw [MQ b];rfl
theorem Tz (b:List UInt8):(b.map fun c=>(c.toNat:Int)).map (fun n=>UInt8.ofNat n.toNat)=b:=by
 rw [List.map_map]
 have:((fun n:Int=>UInt8.ofNat n.toNat)∘fun c:UInt8=>(c.toNat:Int))=id:=by funext c;simp
 rw [this,List.map_id]
theorem We (c:UInt8):(Lib.indexByte [34,92,110] c = -1/\pair c=0)∨∃ i:Nat,Lib.indexByte [34,92,110] c=(i:Int)/\i<3/\pair c≠0/\[34,92,10].getD i 0=pair c:=by
 have e:∀ (b:UInt8) (l:List UInt8),Lib.indexByte (b::l) c=if (b == c)=true then 0 else if (Lib.indexByte l c == -1)=true then -1 else Lib.indexByte l c+1:=fun _ _=>rfl
 have e0:Lib.indexByte [] c = -1:=rfl
 unfold pair
 by_cases h1:c=34
 . subst h1;exact .inr ⟨0,rfl,by decide,by decide,by decide⟩
 . by_cases h2:c=92
   . subst h2;exact .inr ⟨1,rfl,by decide,by decide,by decide⟩
   . by_cases h3:c=110
     . subst h3;exact .inr ⟨2,rfl,by decide,by decide,by decide⟩
     . left
       have n1:((34:UInt8) == c)=false:=beq_eq_false_iff_ne.2 fun h=>h1 h.symm
       have n2:((92:UInt8) == c)=false:=beq_eq_false_iff_ne.2 fun h=>h2 h.symm
       have n3:((110:UInt8) == c)=false:=beq_eq_false_iff_ne.2 fun h=>h3 h.symm
       have i3:Lib.indexByte [110] c = -1:=by rw [e,e0,n3];rfl
       have i2:Lib.indexByte [92,110] c = -1:=by rw [e,i3,n2];rfl
       exact⟨by rw [e,i2,n1];rfl,by simp [h1,h2,h3]⟩
theorem Ra {b r:List UInt8}{c d:UInt8}(h:b.length<=200)(h34:¬ c=34)(h92:c=92):text b (c::d::r)=if pair d=0 then .bad 28 else text (b++[pair d]) r:=by
 conv=>lhs;unfold text
 rw [if_neg (by omega),if_neg h34,if_pos h92]
theorem QZ {b r:List UInt8}{c:UInt8}(h:b.length<=200)(h34:¬ c=34)(h92:¬ c=92):text b (c::r)=if c<32∨126<c then .bad 28 else text (b++[c]) r:=by
 conv=>lhs;unfold text
 rw [if_neg (by omega),if_neg h34,if_neg h92]
theorem ZW (src:ByteArray)(p:Nat)(xs:List (List PV))(hp:p<src.size)(hs:src.size<=1000000)(hx:∀ x∈xs,x.length=4)(hl:xs.length<=1000000) :
 VC Tryz.prog 168 [.ptr 0 0] [J3 src p xs] fun x σ'=>x=.ret (ZO (if src[p]=34 then some (text [] ((bl src).drop (p+1))) else none))/\σ'=[Xy src p xs (if src[p]=34 then some (text [] ((bl src).drop (p+1))) else none)]:=by
 have g1:=(getD_at src p hp).symm
 obtain⟨R,hR⟩:∃ R,text [] ((bl src).drop (p+1))=R:=⟨_,rfl⟩
 rw [hR]
 unfold J3
 refine VC.intro ⟨[0,2,3,4,5,6,7,17,25,34,45,54,65,74,80],[]⟩ Tryz.func168 rfl follows Aaz (by rw [Tryz.ntmps168];exact Nat.le_of_ble_eq_true rfl) ?_;refine Ki ?_
 repeat (first|apply A3|apply Aq|apply Ax|apply A4|apply As|apply Ay rfl|apply Ar rfl|apply An rfl|(refine Ah rfl ?_;intro K' hK hP;simp only [go_sem];apply hK;(focus (simp only [go_sem];exact rfl));clear hK hP K'))
 refine Ah rfl ?_;intro K' hK hP;simp only [go_sem,g1]
 refine⟨⟨by omega,by omega⟩,?_⟩
 apply hK;(focus (simp only [go_sem];exact rfl));clear hK hP K'
 by_cases h34:src[p]=34
 rotate_left
 . have b34:((src[p].toNat:Int) == 34)=false:=beq_eq_false_iff_ne.2 fun h=>h34 ((eq_iff _ 34).2 h)
   refine Ar (by simp only [go_sem,bne,b34]) ?_
   repeat (first|apply A3|apply Aq|apply Ax|apply A4|apply As|apply Ay rfl|apply Ar rfl|apply An rfl|(refine Ah rfl ?_;intro K' hK hP;simp only [go_sem];apply hK;(focus (simp only [go_sem];exact rfl));clear hK hP K'))
   refine B8 ?_;simp only [go_sem,Tryz.results168]
   rw [if_neg h34]
   exact⟨rfl,rfl⟩
 have b34:((src[p].toNat:Int) == 34)=true:=by rw [h34];rfl
 rw [if_pos h34]
 refine An (by simp only [go_sem,bne,b34]) ?_
 have w1:IntKind.i64.wrap ((p:Int)+1)=((p+1:Nat):Int):=Ht (by omega) (by omega)
 repeat (first|apply A3|apply Aq|apply Ax|apply A4|apply As|apply Ay rfl|apply Ar rfl|apply An rfl|(refine Ah rfl ?_;intro K' hK hP;simp only [go_sem,w1];apply hK;(focus (simp only [go_sem];exact rfl));clear hK hP K'))
 refine HL [0,2,3,4,5] 1 (fun a:List UInt8×Nat=>a.2<=src.size/\a.1.length<=201/\text a.1 ((bl src).drop a.2)=R) (fun a=>src.size-a.2) (fun a=>⟨[(0,.ptr 0 0),(2,.lit (.bool false)),(3,.lit (.int .i64 0)),(4,.sl (JN a.1) .own),(5,.lit (.int .i64 (a.2:Int)))],[[.lit (.string src),.lit (.int .i64 (p:Int)),.sl xs .own]]⟩) ([],p+1) (Nat.le_refl _) ?_ ⟨by omega,by simp,hR⟩ ?_
 . exact rfl
 rintro⟨b,k⟩ ⟨h1,h2,h3⟩
 simp only at h1 h2 h3 ⊢
 clear hR
 have hlen:=U0 b
 by_cases h200:b.length<=200
 rotate_left
 . have d1:decide (((JN b).length:Int)<=200)=false:=by rw [decide_eq_false_iff_not,hlen];omega
   have hr:R=.bad 2:=by
    rw [<- h3]
    cases (bl src).drop k with
    |nil=>unfold text;rw [if_pos (by omega)]
    |cons c r=>unfold text;rw [if_pos (by omega)]
   repeat (first|apply A3|apply Aq|apply Ax|apply A4|apply As|apply Ay rfl|apply Ar rfl|apply An rfl|(refine Ah rfl ?_;intro K' hK hP;simp only [go_sem,d1];apply hK;(focus (simp only [go_sem];exact rfl));clear hK hP K'))
   refine B8 ?_;simp only [go_sem,Tryz.results168]
   rw [hr]
   exact⟨rfl,rfl⟩
 have d1:decide (((JN b).length:Int)<=200)=true:=by rw [decide_eq_true_eq,hlen];omega
 repeat (first|apply A3|apply Aq|apply Ax|apply A4|apply As|apply Ay rfl|apply Ar rfl|apply An rfl|(refine Ah rfl ?_;intro K' hK hP;simp only [go_sem,d1];apply hK;(focus (simp only [go_sem];exact rfl));clear hK hP K'))
 by_cases hk:k<src.size
 rotate_left
 . have d2:decide ((src.size:Int)<=(k:Int))=true:=by rw [decide_eq_true_eq];omega
   obtain rfl:k=src.size:=by omega
   have hr:R=.bad 28:=by rw [<- h3,Mw];unfold text;rw [if_neg (by omega)]
   refine Ar (by simp only [go_sem];rw [d2]) ?_
   repeat (first|apply A3|apply Aq|apply Ax|apply A4|apply As|apply Ay rfl|apply Ar rfl|apply An rfl|(refine Ah rfl ?_;intro K' hK hP;simp only [go_sem];apply hK;(focus (simp only [go_sem];exact rfl));clear hK hP K'))
   refine B8 ?_;simp only [go_sem,Tryz.results168]
   rw [hr]
   exact⟨rfl,rfl⟩
 have d2:decide ((src.size:Int)<=(k:Int))=false:=by rw [decide_eq_false_iff_not];omega
 have g2:=(getD_at src k hk).symm
 have hdr:=Fw src k hk
 refine An (by simp only [go_sem];rw [d2]) ?_
 repeat (first|apply A3|apply Aq|apply Ax|apply A4|apply As|apply Ay rfl|apply Ar rfl|apply An rfl|(refine Ah rfl ?_;intro K' hK hP;simp only [go_sem];apply hK;(focus (simp only [go_sem];exact rfl));clear hK hP K'))
 refine Ah rfl ?_;intro K' hK hP;simp only [go_sem,g2]
 refine⟨⟨by omega,by omega⟩,?_⟩
 apply hK;(focus (simp only [go_sem];exact rfl));clear hK hP K'
 repeat (first|apply A3|apply Aq|apply Ax|apply A4|apply As|apply Ay rfl|apply Ar rfl|apply An rfl|(refine Ah rfl ?_;intro K' hK hP;simp only [go_sem];apply hK;(focus (simp only [go_sem];exact rfl));clear hK hP K'))
 by_cases c34:src[k]=34
 . have b1:((src[k].toNat:Int) == 34)=true:=by rw [c34];rfl
   have w2:IntKind.i64.wrap ((k:Int)+1)=((k+1:Nat):Int):=Ht (by omega) (by omega)
   have hr:R=.ok 3 b 0 ((bl src).drop (k+1)):=by rw [<- h3,hdr];unfold text;rw [if_neg (by omega),if_pos c34]
   have e1:=MQ b
   have e2:=Tz b
   refine Ar (by simp only [go_sem,b1]) ?_
   repeat (first|apply A3|apply Aq|apply Ax|apply A4|apply As|apply Ay rfl|apply Ar rfl|apply An rfl|(refine Ah rfl ?_;intro K' hK hP;simp only [go_sem,w2,e1];apply hK;(focus (simp only [go_sem];exact rfl));clear hK hP K'))
   refine Ah rfl ?_;intro K' hK hP;simp only [go_sem,w2,e1,e2,Option.getD_some]
   refine⟨rfl,?_⟩
   refine ((S4 src p xs 3 (k+1) ⟨⟨b⟩⟩ 0 hx hl)).mono ?_;rintro _ _ ⟨rfl,rfl⟩;simp only [go_sem]
   apply hK;(focus (simp only [go_sem];exact rfl));clear hK hP K'
   repeat (first|apply A3|apply Aq|apply Ax|apply A4|apply As|apply Ay rfl|apply Ar rfl|apply An rfl|(refine Ah rfl ?_;intro K' hK hP;simp only [go_sem];apply hK;(focus (simp only [go_sem];exact rfl));clear hK hP K'))
   refine B8 ?_;simp only [go_sem,Tryz.results168]
   rw [hr]
   refine⟨rfl,?_⟩
   show [J3 _ _ _]=[J3 _ _ _]
   rw [List.length_drop,Et,show src.size-(src.size-(k+1))=k+1 by omega];rfl
 . have b1:((src[k].toNat:Int) == 34)=false:=beq_eq_false_iff_ne.2 fun h=>c34 ((eq_iff _ 34).2 h)
   refine An (by simp only [go_sem,b1]) ?_
   repeat (first|apply A3|apply Aq|apply Ax|apply A4|apply As|apply Ay rfl|apply Ar rfl|apply An rfl|(refine Ah rfl ?_;intro K' hK hP;simp only [go_sem];apply hK;(focus (simp only [go_sem];exact rfl));clear hK hP K'))
   by_cases c92:src[k]=92
   . have b2:((src[k].toNat:Int) == 92)=true:=by rw [c92];rfl
     have w2:IntKind.i64.wrap ((k:Int)+1)=((k+1:Nat):Int):=Ht (by omega) (by omega)
     refine Ar (by simp only [go_sem,b2]) ?_
     repeat (first|apply A3|apply Aq|apply Ax|apply A4|apply As|apply Ay rfl|apply Ar rfl|apply An rfl|(refine Ah rfl ?_;intro K' hK hP;simp only [go_sem,w2];apply hK;(focus (simp only [go_sem];exact rfl));clear hK hP K'))
     by_cases hk2:k+1<src.size
     . have d3:decide (((k+1:Nat):Int)<(src.size:Int))=true:=by rw [decide_eq_true_eq];omega
       have g3:=(getD_at src (k+1) hk2).symm
       have hdr2:=Fw src (k+1) hk2
       refine Ar (by simp only [go_sem,d3]) ?_
       repeat (first|apply A3|apply Aq|apply Ax|apply A4|apply As|apply Ay rfl|apply Ar rfl|apply An rfl|(refine Ah rfl ?_;intro K' hK hP;simp only [go_sem];apply hK;(focus (simp only [go_sem];exact rfl));clear hK hP K'))
       refine Ah rfl ?_;intro K' hK hP;simp only [go_sem,g3]
       refine⟨⟨by omega,by omega⟩,?_⟩
       have hcall:=Ny (σ:=[[.lit (.string src),.lit (.int .i64 (p:Int)),.sl xs .own]]) ⟨#[34,92,110]⟩ src[k+1]
       rw [show bl ⟨#[34,92,110]⟩=[34,92,110] from rfl] at hcall
       refine (hcall).mono ?_;rintro _ _ ⟨rfl,rfl⟩;simp only [go_sem]
       apply hK;(focus (simp only [go_sem];exact rfl));clear hK hP K'
       rcases We src[k+1] with⟨hz,hpr⟩|⟨i,hz,hi,hpr,hpi⟩
       . have hr:R=.bad 28:=by rw [<- h3,hdr,hdr2,Ra h200 c34 c92,if_pos hpr]
         repeat (first|apply A3|apply Aq|apply Ax|apply A4|apply As|apply Ay rfl|apply Ar rfl|apply An rfl|(refine Ah rfl ?_;intro K' hK hP;simp only [go_sem,hz];apply hK;(focus (simp only [go_sem];exact rfl));clear hK hP K'))
         refine B8 ?_;simp only [go_sem,Tryz.results168]
         rw [hr]
         exact⟨rfl,rfl⟩
       . have hr:text (b++[pair src[k+1]]) ((bl src).drop (k+2))=R:=by rw [<- h3,hdr,hdr2,Ra h200 c34 c92,if_neg hpr]
         have d4:decide ((i:Int)<0)=false:=by rw [decide_eq_false_iff_not];omega
         have e1:=Pp b (pair src[k+1])
         have w3:IntKind.i64.wrap (((k+1:Nat):Int)+1)=((k+2:Nat):Int):=Ht (by omega) (by omega)
         repeat (first|apply A3|apply Aq|apply Ax|apply A4|apply As|apply Ay rfl|apply Ar rfl|apply An rfl|(refine Ah rfl ?_;intro K' hK hP;simp only [go_sem,hz,d4];apply hK;(focus (simp only [go_sem];exact rfl));clear hK hP K'))
         refine Ah rfl ?_;intro K' hK hP;simp only [go_sem,hpi,e1]
         refine⟨⟨by omega,by show (i:Int)<3;omega⟩,rfl,T7 (by rw [hlen];exact Nat.le_trans (Nat.mul_le_mul_right _ (show b.length+1<=1000 by omega)) (by decide)) Po rfl,?_⟩
         apply hK;(focus (simp only [go_sem];exact rfl));clear hK hP K'
         repeat (first|apply A3|apply Aq|apply Ax|apply A4|apply As|apply Ay rfl|apply Ar rfl|apply An rfl|(refine Ah rfl ?_;intro K' hK hP;simp only [go_sem,w3];apply hK;(focus (simp only [go_sem];exact rfl));clear hK hP K'))
         exact Ca (b++[pair src[k+1]],k+2) rfl ⟨by show k+2<=src.size;omega,by rw [List.length_append];show b.length+1<=201;omega,hr⟩ (by show src.size-(k+2)<src.size-k;omega)
     . have d3:decide (((k+1:Nat):Int)<(src.size:Int))=false:=by rw [decide_eq_false_iff_not];omega
       have hr:R=.bad 28:=by
        rw [<- h3,hdr,show (bl src).drop (k+1)=[] from by rw [show k+1=src.size by omega];exact Mw src]
        unfold text;rw [if_neg (by omega),if_neg c34,if_pos c92]
       refine An (by simp only [go_sem,d3]) ?_
       repeat (first|apply A3|apply Aq|apply Ax|apply A4|apply As|apply Ay rfl|apply Ar rfl|apply An rfl|(refine Ah rfl ?_;intro K' hK hP;simp only [go_sem];apply hK;(focus (simp only [go_sem];exact rfl));clear hK hP K'))
       refine B8 ?_;simp only [go_sem,Tryz.results168]
       rw [hr]
       exact⟨rfl,rfl⟩
   . have b2:((src[k].toNat:Int) == 92)=false:=beq_eq_false_iff_ne.2 fun h=>c92 ((eq_iff _ 92).2 h)
     refine An (by simp only [go_sem,b2]) ?_
     have lt32:src[k]<32↔(src[k].toNat:Int)<32:=by rw [UInt8.lt_iff_toNat_lt];exact⟨fun h=>by have:(32:UInt8).toNat=32:=rfl;omega,fun h=>by have:(32:UInt8).toNat=32:=rfl;omega⟩
     have gt126:126<src[k]↔(126:Int)<(src[k].toNat:Int):=by rw [UInt8.lt_iff_toNat_lt];exact⟨fun h=>by have:(126:UInt8).toNat=126:=rfl;omega,fun h=>by have:(126:UInt8).toNat=126:=rfl;omega⟩
     by_cases ho:src[k]<32∨126<src[k]
     . have hr:R=.bad 28:=by rw [<- h3,hdr,QZ h200 c34 c92,if_pos ho]
       by_cases h32:src[k]<32
       . have t1:decide ((src[k].toNat:Int)<32)=true:=decide_eq_true (lt32.1 h32)
         repeat (first|apply A3|apply Aq|apply Ax|apply A4|apply As|apply Ay rfl|apply Ar rfl|apply An rfl|(refine Ah rfl ?_;intro K' hK hP;simp only [go_sem,t1];apply hK;(focus (simp only [go_sem];exact rfl));clear hK hP K'))
         refine B8 ?_;simp only [go_sem,Tryz.results168]
         rw [hr]
         exact⟨rfl,rfl⟩
       . have t1:decide ((src[k].toNat:Int)<32)=false:=decide_eq_false fun h=>h32 (lt32.2 h)
         have t2:decide ((126:Int)<(src[k].toNat:Int))=true:=decide_eq_true (gt126.1 (ho.resolve_left h32))
         repeat (first|apply A3|apply Aq|apply Ax|apply A4|apply As|apply Ay rfl|apply Ar rfl|apply An rfl|(refine Ah rfl ?_;intro K' hK hP;simp only [go_sem,t1,t2];apply hK;(focus (simp only [go_sem];exact rfl));clear hK hP K'))
         refine B8 ?_;simp only [go_sem,Tryz.results168]
         rw [hr]
         exact⟨rfl,rfl⟩
     . have hr:text (b++[src[k]]) ((bl src).drop (k+1))=R:=by rw [<- h3,hdr,QZ h200 c34 c92,if_neg ho]
       have t1:decide ((src[k].toNat:Int)<32)=false:=decide_eq_false fun h=>ho (.inl (lt32.2 h))
       have t2:decide ((126:Int)<(src[k].toNat:Int))=false:=decide_eq_false fun h=>ho (.inr (gt126.2 h))
       have e1:=Pp b src[k]
       have w2:IntKind.i64.wrap ((k:Int)+1)=((k+1:Nat):Int):=Ht (by omega) (by omega)
       repeat (first|apply A3|apply Aq|apply Ax|apply A4|apply As|apply Ay rfl|apply Ar rfl|apply An rfl|(refine Ah rfl ?_;intro K' hK hP;simp only [go_sem,t1,t2];apply hK;(focus (simp only [go_sem];exact rfl));clear hK hP K'))
       refine Ah rfl ?_;intro K' hK hP;simp only [go_sem,e1]
       refine⟨rfl,T7 (by rw [hlen];exact Nat.le_trans (Nat.mul_le_mul_right _ (show b.length+1<=1000 by omega)) (by decide)) Po rfl,?_⟩
       apply hK;(focus (simp only [go_sem];exact rfl));clear hK hP K'
       repeat (first|apply A3|apply Aq|apply Ax|apply A4|apply As|apply Ay rfl|apply Ar rfl|apply An rfl|(refine Ah rfl ?_;intro K' hK hP;simp only [go_sem,w2];apply hK;(focus (simp only [go_sem];exact rfl));clear hK hP K'))
       exact Ca (b++[src[k]],k+1) rfl ⟨by show k+1<=src.size;omega,by rw [List.length_append];show b.length+1<=201;omega,hr⟩ (by show src.size-(k+1)<src.size-k;omega)
end Go.Proofs.YtkcfmlfkfagejaaGreatDoor
namespace Go.Proofs.YtkcfmlfkfagejaaGreatDoor
open Go.RowKit Go.Q Go.Lx Go.Vl
set_option maxRecDepth 100000
variable {σ:List (List PV)}
theorem Aag {w:World}(h:Nd w):Lib.TabIs Tryz.prog w "strings.asciiSpace" .u8 Lib.asciiSpaceTab:=by
 obtain⟨⟨⟨T,o,h0⟩,_⟩,_⟩:=h
 unfold Lib.TabIs World.var?
 rw [show Tryz.prog.globalNamed "strings.asciiSpace" = some 2 from by kernel_rfl]
 simp only [Option.bind_some,h0]
def P3:ByteArray:=⟨#[45,62,32,58,61,32,61,61,32,33,61,32,60,61,32,62,61,32,38,38,32,124,124,32,46,46]⟩
theorem Qx:Lib.fields P3.data.toList=long:=by decide +kernel
theorem Sq:∀ (j:Nat) (b:UInt8),P3.data.toList[j]?=some b->b.toNat<128:=by
 have h:∀ b∈P3.data.toList,b.toNat<128:=by decide
 exact fun j b hb=>h b (List.mem_of_getElem? hb)
theorem Xm:VC Tryz.prog 196 [.lit (.string P3)] σ fun x σ'=>x=.ret (.sl (long.map fun l=>[.lit (.string ⟨⟨l⟩⟩)]) .full)/\σ'=σ:=by
 have h:=VC.freshSl (P:=Tryz.prog) (f:=196) (σ:=σ) [.string P3] (long.map fun l=>.string ⟨⟨l⟩⟩) 9 (by simp [long,Value.oneCell']) (by decide) fun w hg=>by
  have:=Tryz.strings_Fields P3 w (by decide) Sq (Aag hg)
  rw [Qx] at this
  refine this.mono fun e w' h=>?_
  rw [List.length_map]
  exact h
 rw [List.map_map] at h
 exact h
theorem S5 (s p:ByteArray):VC Tryz.prog 197 [.lit (.string s),.lit (.string p)] σ fun x σ'=>x=.ret (.lit (.bool (Lib.hasPrefix (bl s) (bl p))))/\σ'=σ :=
 VC.lits [.string s,.string p] _ fun w _=>(Tryz.strings_HasPrefix s p w).mono fun _ _ h=>⟨h.1,by rw [h.2];exact Below.refl _ _⟩
theorem Us (s:ByteArray)(c:UInt8):VC Tryz.prog 198 [.lit (.string s),.lit (.string ⟨#[c]⟩)] σ fun x σ'=>x=.ret (.lit (.bool (decide (0<=Lib.indexByte (bl s) c))))/\σ'=σ :=
 VC.lits [.string s,.string ⟨#[c]⟩] _ fun w _=>(Tryz.strings_Contains_one s c w).mono fun _ _ h=>⟨h.1,by rw [h.2];exact Below.refl _ _⟩
def Ea (r:List UInt8):Option Out:=match sign r with|.bad _=>none|x=>some x
def N8:ByteArray:=⟨⟨short⟩⟩
theorem TX (c:UInt8):∀ (l:List UInt8),decide (0<=Lib.indexByte l c)=decide (c∈l)
 | []=>rfl
 |b::l=>by
  have ih:=TX c l
  have hge:=Lib.indexByte_ge l c
  have e:Lib.indexByte (b::l) c=if (b == c)=true then 0 else if (Lib.indexByte l c == -1)=true then -1 else Lib.indexByte l c+1:=rfl
  rw [e]
  by_cases hb:b=c
  . subst hb;simp
  . rw [if_neg (by simpa using hb)]
    have hm:(c∈b::l)↔c∈l:=⟨fun h=>(List.mem_cons.1 h).resolve_left fun e=>hb e.symm,List.mem_cons_of_mem _⟩
    rw [decide_eq_decide] at ih ⊢
    rw [hm,<- ih]
    by_cases hn:Lib.indexByte l c = -1
    . rw [if_pos (by rw [hn];rfl),hn]
    . rw [if_neg (by simpa using hn)];omega
theorem VU {l:List UInt8}(h:l∈long):l.length=2:=by
 have:∀ l∈long,l.length=2:=by decide
 exact this l h
theorem XI {i:Nat}(h:i<9):long.getD i []∈long:=by
 have:i<long.length:=h
 rw [List.getD_eq_getElem?_getD,List.getElem?_eq_getElem this];exact List.getElem_mem this
theorem Rp {r l:List UInt8}(h:l.length=2):Lib.hasPrefix r l=decide (r.take 2=l):=by
 unfold Lib.hasPrefix
 rw [Bool.eq_iff_iff,List.isPrefixOf_iff_prefix,List.prefix_iff_eq_take,h,decide_eq_true_eq]
 exact⟨fun e=>e.symm,fun e=>e.symm⟩
theorem ZX (src:ByteArray)(p:Nat)(xs:List (List PV))(hp:p<src.size)(hs:src.size<=1000000)(hx:∀ x∈xs,x.length=4)(hl:xs.length<=1000000) :
 VC Tryz.prog 169 [.ptr 0 0] [J3 src p xs] fun x σ'=>x=.ret (ZO (Ea ((bl src).drop p)))/\σ'=[Xy src p xs (Ea ((bl src).drop p))]:=by
 unfold J3
 refine VC.intro ⟨[0,2,3,4,6,16,17,18,19,24,37],[]⟩ Tryz.func169 rfl follows Aay (by rw [Tryz.ntmps169];exact Nat.le_of_ble_eq_true rfl) ?_;refine Ki ?_
 repeat (first|apply A3|apply Aq|apply Ax|apply A4|apply As|apply Ay rfl|apply Ar rfl|apply An rfl|(refine Ah rfl ?_;intro K' hK hP;simp only [go_sem];apply hK;(focus (simp only [go_sem];exact rfl));clear hK hP K'))
 refine Ah rfl ?_;intro K' hK hP;simp only [go_sem]
 refine⟨⟨by omega,by omega,by omega⟩,?_⟩
 apply hK;(focus (simp only [go_sem];exact rfl));clear hK hP K'
 obtain⟨X,hX⟩:∃ X,X=src.extract p src.size:=⟨_,rfl⟩
 rw [<- hX]
 have hbX:bl X=(bl src).drop p:=by rw [hX,O7,List.take_of_length_le (by rw [List.length_drop,Et];exact Nat.le_refl _)]
 obtain⟨Z,hZ⟩:∃ Z:List (List PV),Z=long.map fun l=>[.lit (.string ⟨⟨l⟩⟩)]:=⟨_,rfl⟩
 have hlZ:Z.length=9:=by rw [hZ];rfl
 have hf:=Xm (σ:=[[.lit (.string src),.lit (.int .i64 (p:Int)),.sl xs .own]])
 rw [<- hZ] at hf
 repeat (first|apply A3|apply Aq|apply Ax|apply A4|apply As|apply Ay rfl|apply Ar rfl|apply An rfl|(refine Ah rfl ?_;intro K' hK hP;simp only [go_sem];apply hK;(focus (simp only [go_sem];exact rfl));clear hK hP K'))
 refine Ah rfl ?_;intro K' hK hP;simp only [go_sem];refine (hf).mono ?_;rintro _ _ ⟨rfl,rfl⟩;simp only [go_sem];apply hK;(focus (simp only [go_sem];exact rfl));clear hK hP K'
 repeat (first|apply A3|apply Aq|apply Ax|apply A4|apply As|apply Ay rfl|apply Ar rfl|apply An rfl|(refine Ah rfl ?_;intro K' hK hP;simp only [go_sem];apply hK;(focus (simp only [go_sem];exact rfl));clear hK hP K'))
 refine HL [0,2,3,4,16,17,18] 1 (fun i:Nat=>i<=9/\∀ j,j<i->((bl src).drop p).take 2≠long.getD j []) (fun i=>9-i) (fun i=>⟨[(0,.ptr 0 0),(2,.lit (.bool false)),(3,.lit (.int .i64 0)),(4,.lit (.string X)),(16,.sl Z .full),(17,.lit (.int .i64 (Z.length:Int))),(18,.lit (.int .i64 (i:Int)))],[[.lit (.string src),.lit (.int .i64 (p:Int)),.sl xs .own]]⟩) 0 (Nat.le_refl _) ?_ ⟨by omega,fun j hj=>by omega⟩ ?_
 . exact rfl
 rintro i ⟨h1,h2⟩
 by_cases hi:i<9
 . have d1:decide ((i:Int)<(Z.length:Int))=true:=by rw [decide_eq_true_eq];omega
   repeat (first|apply A3|apply Aq|apply Ax|apply A4|apply As|apply Ay rfl|apply Ar rfl|apply An rfl|(refine Ah rfl ?_;intro K' hK hP;simp only [go_sem,d1];apply hK;(focus (simp only [go_sem];exact rfl));clear hK hP K'))
   have z1:Z.getD i []=[.lit (.string ⟨⟨long.getD i []⟩⟩)]:=by
    have hi2:i<long.length:=hi
    rw [hZ,List.getD_eq_getElem?_getD,List.getElem?_map,List.getD_eq_getElem?_getD,List.getElem?_eq_getElem hi2];rfl
   have hm:=XI hi
   obtain⟨L,hL⟩:∃ L,L=long.getD i []:=⟨_,rfl⟩
   rw [<- hL] at z1 hm
   have h22:=VU hm
   refine Ah rfl ?_;intro K' hK hP;simp only [go_sem,z1]
   refine⟨⟨by omega,by omega⟩,?_⟩
   apply hK;(focus (simp only [go_sem];exact rfl));clear hK hP K'
   repeat (first|apply A3|apply Aq|apply Ax|apply A4|apply As|apply Ay rfl|apply Ar rfl|apply An rfl|(refine Ah rfl ?_;intro K' hK hP;simp only [go_sem];apply hK;(focus (simp only [go_sem];exact rfl));clear hK hP K'))
   refine Ah rfl ?_;intro K' hK hP;simp only [go_sem];refine ((S5 X ⟨⟨L⟩⟩)).mono ?_;rintro _ _ ⟨rfl,rfl⟩;simp only [go_sem];apply hK;(focus (simp only [go_sem];exact rfl));clear hK hP K'
   by_cases hpre:((bl src).drop p).take 2=L
   . have b1:Lib.hasPrefix (bl X) (bl ⟨⟨L⟩⟩)=true:=by rw [show bl ⟨⟨L⟩⟩=L from rfl,Rp h22,hbX];exact decide_eq_true hpre
     have hlen:((bl src).drop p).length=src.size-p:=by rw [List.length_drop,Et]
     have h2l:2<=src.size-p:=by
      have:=congrArg List.length hpre
      rw [List.length_take,h22] at this;omega
     have hr:Ea ((bl src).drop p)=some (.ok 4 L 0 ((bl src).drop (p+2))):=by
      unfold Ea sign;rw [hpre,if_pos hm,List.drop_drop]
     have w2:IntKind.i64.wrap ((p:Int)+2)=((p+2:Nat):Int):=Ht (by omega) (by omega)
     refine Ar (by simp only [go_sem,b1]) ?_
     repeat (first|apply A3|apply Aq|apply Ax|apply A4|apply As|apply Ay rfl|apply Ar rfl|apply An rfl|(refine Ah rfl ?_;intro K' hK hP;simp only [go_sem,w2];apply hK;(focus (simp only [go_sem];exact rfl));clear hK hP K'))
     refine Ah rfl ?_;intro K' hK hP;simp only [go_sem,w2];refine ((S4 src p xs 4 (p+2) ⟨⟨L⟩⟩ 0 hx hl)).mono ?_;rintro _ _ ⟨rfl,rfl⟩;simp only [go_sem];apply hK;(focus (simp only [go_sem];exact rfl));clear hK hP K'
     repeat (first|apply A3|apply Aq|apply Ax|apply A4|apply As|apply Ay rfl|apply Ar rfl|apply An rfl|(refine Ah rfl ?_;intro K' hK hP;simp only [go_sem];apply hK;(focus (simp only [go_sem];exact rfl));clear hK hP K'))
     refine B8 ?_;simp only [go_sem,Tryz.results169]
     rw [hr]
     refine⟨rfl,?_⟩
     show [J3 _ _ _]=[J3 _ _ _]
     rw [List.length_drop,Et,show src.size-(src.size-(p+2))=p+2 by omega];rfl
   . have b1:Lib.hasPrefix (bl X) (bl ⟨⟨L⟩⟩)=false:=by rw [show bl ⟨⟨L⟩⟩=L from rfl,Rp h22,hbX];exact decide_eq_false hpre
     have w3:IntKind.i64.wrap ((i:Int)+1)=((i+1:Nat):Int):=Ht (by omega) (by omega)
     refine An (by simp only [go_sem,b1]) ?_
     repeat (first|apply A3|apply Aq|apply Ax|apply A4|apply As|apply Ay rfl|apply Ar rfl|apply An rfl|(refine Ah rfl ?_;intro K' hK hP;simp only [go_sem,w3];apply hK;(focus (simp only [go_sem];exact rfl));clear hK hP K'))
     refine Ca (i+1) rfl ⟨by omega,fun j hj=>?_⟩ (by omega)
     rcases Nat.lt_succ_iff_lt_or_eq.1 hj with h|rfl
     . exact h2 j h
     . rw [<- hL];exact hpre
 . have d1:decide ((i:Int)<(Z.length:Int))=false:=by rw [decide_eq_false_iff_not];omega
   have hnl:((bl src).drop p).take 2∉long:=fun hm=>by
    obtain⟨j,hj,he⟩:=List.getElem_of_mem hm
    have hj9:j<9:=hj
    refine h2 j (by omega) ?_
    rw [List.getD_eq_getElem?_getD,List.getElem?_eq_getElem hj];exact he.symm
   have hdr:=Fw src p hp
   have hX1:X.extract 0 1=⟨#[src[p]]⟩:=by
    have:bl (X.extract 0 1)=[src[p]]:=by rw [O7,List.drop_zero,hbX,hdr];rfl
    have e:X.extract 0 1=⟨⟨bl (X.extract 0 1)⟩⟩:=rfl
    rw [e,this]
   have hXs:1<=X.size:=by rw [<- Et,hbX,List.length_drop,Et];omega
   repeat (first|apply A3|apply Aq|apply Ax|apply A4|apply As|apply Ay rfl|apply Ar rfl|apply An rfl|(refine Ah rfl ?_;intro K' hK hP;simp only [go_sem,d1];apply hK;(focus (simp only [go_sem];exact rfl));clear hK hP K'))
   refine Ah rfl ?_;intro K' hK hP;simp only [go_sem]
   refine⟨by omega,?_⟩
   rw [show X.extract (Int.toNat 0) (Int.toNat 1)=⟨#[src[p]]⟩ from hX1]
   refine ((Us N8 src[p])).mono ?_;rintro _ _ ⟨rfl,rfl⟩;simp only [go_sem]
   apply hK;(focus (simp only [go_sem];exact rfl));clear hK hP K'
   have hm:=TX src[p] short
   by_cases hs1:src[p]∈short
   . have b1:decide (0<=Lib.indexByte (bl N8) src[p])=true:=by rw [show bl N8=short from rfl,hm];exact decide_eq_true hs1
     have hr:Ea ((bl src).drop p)=some (.ok 4 [src[p]] 0 ((bl src).drop (p+1))):=by
      unfold Ea sign;rw [if_neg hnl,hdr];simp only;rw [if_pos hs1]
     have w2:IntKind.i64.wrap ((p:Int)+1)=((p+1:Nat):Int):=Ht (by omega) (by omega)
     refine An (by simp only [go_sem,b1]) ?_
     repeat (first|apply A3|apply Aq|apply Ax|apply A4|apply As|apply Ay rfl|apply Ar rfl|apply An rfl|(refine Ah rfl ?_;intro K' hK hP;simp only [go_sem,w2];apply hK;(focus (simp only [go_sem];exact rfl));clear hK hP K'))
     refine Ah rfl ?_;intro K' hK hP;simp only [go_sem,w2]
     refine⟨by omega,?_⟩
     rw [show X.extract (Int.toNat 0) (Int.toNat 1)=⟨#[src[p]]⟩ from hX1]
     refine ((S4 src p xs 4 (p+1) ⟨#[src[p]]⟩ 0 hx hl)).mono ?_;rintro _ _ ⟨rfl,rfl⟩;simp only [go_sem]
     apply hK;(focus (simp only [go_sem];exact rfl));clear hK hP K'
     repeat (first|apply A3|apply Aq|apply Ax|apply A4|apply As|apply Ay rfl|apply Ar rfl|apply An rfl|(refine Ah rfl ?_;intro K' hK hP;simp only [go_sem];apply hK;(focus (simp only [go_sem];exact rfl));clear hK hP K'))
     refine B8 ?_;simp only [go_sem,Tryz.results169]
     rw [hr]
     refine⟨rfl,?_⟩
     show [J3 _ _ _]=[J3 _ _ _]
     rw [List.length_drop,Et,show src.size-(src.size-(p+1))=p+1 by omega];rfl
   . have b1:decide (0<=Lib.indexByte (bl N8) src[p])=false:=by rw [show bl N8=short from rfl,hm];exact decide_eq_false hs1
     have hr:Ea ((bl src).drop p)=none:=by
      unfold Ea sign;rw [if_neg hnl,hdr];simp only;rw [if_neg hs1]
     refine Ar (by simp only [go_sem,b1]) ?_
     repeat (first|apply A3|apply Aq|apply Ax|apply A4|apply As|apply Ay rfl|apply Ar rfl|apply An rfl|(refine Ah rfl ?_;intro K' hK hP;simp only [go_sem];apply hK;(focus (simp only [go_sem];exact rfl));clear hK hP K'))
     refine B8 ?_;simp only [go_sem,Tryz.results169]
     rw [hr]
     exact⟨rfl,rfl⟩
end Go.Proofs.YtkcfmlfkfagejaaGreatDoor
