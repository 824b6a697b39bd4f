/-
  The lexer's Text, walked in plain values.
-/
import Derived.Test.YtkcfmlfkfagejaaGreatDoorU39
import Derived.Test.YtkcfmlfkfagejaaGreatDoorU41
set_option linter.unusedVariables false
set_option linter.unusedSimpArgs false
namespace Go.Proofs.YtkcfmlfkfagejaaGreatDoor
open Go.RowKit Go.Q Go.Lx Go.Vl
set_option maxRecDepth 100000
set_option maxHeartbeats 1000000
variable {σ:List (List PV)}
structure RT where
 k:Int
 a:Int
 s:List UInt8
 v:Int
def UB (t:RT):List PV:=[.lit (.int .i64 t.k),.lit (.int .i64 t.a),.lit (.string ⟨⟨t.s⟩⟩),.lit (.int .i64 t.v)]
def HD (t:RT):List (List UInt8):=if t.k=1∨t.k=4 then [t.s] else if t.k=2 then [Lib.itoa t.v] else if t.k=3 then [34::Lx.quoted t.s++[34]] else []
def Fz (l:List RT):List (List UInt8):=l.flatMap HD
theorem T1 (l:List RT)(k:Nat)(h:k<l.length):Fz (l.take (k+1))=Fz (l.take k)++HD l[k]:=by
 unfold Fz
 rw [List.take_add_one,List.getElem?_eq_getElem h,List.flatMap_append]
 simp
theorem MA:∀ (l:List RT),(Fz l).length<=l.length
 | []=>Nat.le_refl _
 |t::l=>by
  have:=MA l
  unfold Fz at this ⊢
  rw [List.flatMap_cons,List.length_append,List.length_cons]
  have h1:(HD t).length<=1:=by
   unfold HD
   split
   . exact Nat.le_refl _
   . split
     . exact Nat.le_refl _
     . split
       . exact Nat.le_refl _
       . exact Nat.zero_le _
  omega
def Rep:Prop:=∀ s:List UInt8,s.length<=1000000->∃ R:List PV,PV.fitsL 0 R=true/\VC Tryz.prog 114 [.ptr 0 0,.lit (.string ⟨⟨s⟩⟩)] [LC] fun x σ'=>x=.ret (.lit (.string ⟨⟨Lx.quoted s⟩⟩))/\σ'=[R]
theorem Vb {W:List (List PV)}{r:PV}(h:W.length<=1000000)(hW:∀ x∈W,x.length=1):(decide ((W.length+1)*17<=140737488355328)&&((W.all fun x=>x.length == 1)&&[[r]].all fun x=>x.length == 1))=true:=by
 rw [Bool.and_eq_true,Bool.and_eq_true]
 refine⟨decide_eq_true (by omega),List.all_eq_true.2 fun x hx=>?_,rfl⟩
 rw [hW x hx];rfl
theorem XK (l:List RT)(hl:l.length<=1000000)(hv:∀ t∈l,-9223372036854775808<=t.v/\t.v<=9223372036854775807)(hw:(Lib.join (Fz l) [32]).length<=140737488355328)
 (hq:∀ t∈l,t.k≠3∨(Rep/\t.s.length<=1000000)) (g:Grow) :
 VC Tryz.prog 66 [.sl (l.map UB) g] [] fun x σ'=>x=.ret (.lit (.string ⟨⟨Lib.join (Fz l) [32]⟩⟩))/\σ'=[]:=by
 have hll:(l.map UB).length=l.length:=List.length_map _
 have hrow:∀ k (h:k<l.length),(l.map UB).getD k []=UB l[k]:=fun k h=>by rw [List.getD_eq_getElem?_getD,List.getElem?_map,List.getElem?_eq_getElem h];rfl
 obtain⟨Z,hZ⟩:∃ Z,l.map UB=Z:=⟨_,rfl⟩
 rw [hZ] at hll hrow ⊢
 refine VC.intro ⟨[0,2,3,5,6,7,8,9,13,14,22,30],[(12,[0,3,4,1,2,5,6,7,8,9,10])]⟩ Tryz.func66 rfl follows Aay (by rw [Tryz.ntmps66];exact Nat.le_of_ble_eq_true rfl) ?_;refine KN ?_
 repeat (first|apply A0|apply An|apply Ar|apply A1|apply Ap|apply As rfl|apply Ao rfl|apply Al rfl|(refine Af rfl ?_;intro K' hK hP;simp only [go_sem];apply hK;(focus (simp only [go_sem];exact rfl));clear hK hP K'))
 refine Iy [2,3,6,7,8] 0 (fun k:Nat=>k<=l.length) (fun k=>l.length-k)
  (fun k=>⟨[(2,.lit (.string ⟨#[]⟩)),(3,.sl (CV (Fz (l.take k))) .own),(6,.sl Z .shared),(7,.lit (.int .i64 (Z.length:Int))),(8,.lit (.int .i64 (k:Int)))],[]⟩) 0 (Nat.zero_le _) ?_ (Nat.zero_le _) ?_
 . exact rfl
 rintro k hk
 by_cases hlt:k<l.length
 . have d1:decide ((k:Int)<(Z.length:Int))=true:=by rw [decide_eq_true_eq];omega
   have hr:=hrow k hlt
   have hsu:=T1 l k hlt
   have hm:=List.getElem_mem hlt
   have hvk:=hv _ hm
   have hqk:=hq _ hm
   have hwl:=MA (l.take k)
   rw [List.length_take] at hwl
   have w1:IntKind.i64.wrap ((k:Int)+1)=((k+1:Nat):Int):=H8 (by omega) (by omega)
   revert hr hsu hvk hqk
   generalize l[k]=t
   intro hr hsu hvk hqk
   obtain⟨tk,ta,ts,tv⟩:=t
   unfold UB at hr
   have hsr:CV (Fz (l.take (k+1)))=CV (Fz (l.take k))++CV (HD ⟨tk,ta,ts,tv⟩):=by rw [hsu];unfold CV;rw [List.map_append]
   obtain⟨W,hW⟩:∃ W,CV (Fz (l.take k))=W:=⟨_,rfl⟩
   have hWl:W.length<=1000000:=by rw [<- hW];unfold CV;rw [List.length_map];omega
   have hW1:∀ x∈W,x.length=1:=by
    rw [<- hW]
    intro x hx
    obtain⟨y,_,rfl⟩:=List.mem_map.1 hx
    rfl
   rw [hW] at hsr ⊢
   simp only at hvk hqk hr
   repeat (first|apply A0|apply An|apply Ar|apply A1|apply Ap|apply As rfl|apply Ao rfl|apply Al rfl|(refine Af rfl ?_;intro K' hK hP;simp only [go_sem,d1];apply hK;(focus (simp only [go_sem];exact rfl));clear hK hP K'))
   refine Af rfl ?_;intro K' hK hP;simp only [go_sem,hr]
   refine⟨⟨by omega,by omega⟩,?_⟩
   apply hK;(focus (simp only [go_sem];exact rfl));clear hK hP K'
   by_cases k1:tk=1
   . have b1:(tk == 1)=true:=beq_iff_eq.2 k1
     have hwd:CV (HD ⟨tk,ta,ts,tv⟩)=[[.lit (.string ⟨⟨ts⟩⟩)]]:=by unfold HD;rw [if_pos (.inl k1)];rfl
     rw [hwd] at hsr
     repeat (first|apply A0|apply An|apply Ar|apply A1|apply Ap|apply As rfl|apply Ao rfl|apply Al rfl|(refine Af rfl ?_;intro K' hK hP;simp only [go_sem,b1];apply hK;(focus (simp only [go_sem];exact rfl));clear hK hP K'))
     refine Af rfl ?_;intro K' hK hP;simp only [go_sem]
     refine⟨rfl,Vb hWl hW1,?_⟩
     apply hK;(focus (simp only [go_sem];exact rfl));clear hK hP K'
     repeat (first|apply A0|apply An|apply Ar|apply A1|apply Ap|apply As rfl|apply Ao rfl|apply Al rfl|(refine Af rfl ?_;intro K' hK hP;simp only [go_sem,w1];apply hK;(focus (simp only [go_sem];exact rfl));clear hK hP K'))
     exact BK (k+1) (by rw [hsr];rfl) hlt (by omega)
   have b1:(tk == 1)=false:=beq_eq_false_iff_ne.2 k1
   by_cases k4:tk=4
   . have b4:(tk == 4)=true:=beq_iff_eq.2 k4
     have hwd:CV (HD ⟨tk,ta,ts,tv⟩)=[[.lit (.string ⟨⟨ts⟩⟩)]]:=by unfold HD;rw [if_pos (.inr k4)];rfl
     rw [hwd] at hsr
     repeat (first|apply A0|apply An|apply Ar|apply A1|apply Ap|apply As rfl|apply Ao rfl|apply Al rfl|(refine Af rfl ?_;intro K' hK hP;simp only [go_sem,b1,b4];apply hK;(focus (simp only [go_sem];exact rfl));clear hK hP K'))
     refine Af rfl ?_;intro K' hK hP;simp only [go_sem]
     refine⟨rfl,Vb hWl hW1,?_⟩
     apply hK;(focus (simp only [go_sem];exact rfl));clear hK hP K'
     repeat (first|apply A0|apply An|apply Ar|apply A1|apply Ap|apply As rfl|apply Ao rfl|apply Al rfl|(refine Af rfl ?_;intro K' hK hP;simp only [go_sem,w1];apply hK;(focus (simp only [go_sem];exact rfl));clear hK hP K'))
     exact BK (k+1) (by rw [hsr];rfl) hlt (by omega)
   have b4:(tk == 4)=false:=beq_eq_false_iff_ne.2 k4
   have n14:¬ (tk=1∨tk=4):=fun h=>h.elim k1 k4
   by_cases k2:tk=2
   . have b2:(tk == 2)=true:=beq_iff_eq.2 k2
     have hwd:CV (HD ⟨tk,ta,ts,tv⟩)=[[.lit (.string ⟨⟨Lib.itoa tv⟩⟩)]]:=by unfold HD;rw [if_neg n14,if_pos k2];rfl
     rw [hwd] at hsr
     repeat (first|apply A0|apply An|apply Ar|apply A1|apply Ap|apply As rfl|apply Ao rfl|apply Al rfl|(refine Af rfl ?_;intro K' hK hP;simp only [go_sem,b1,b4,b2];apply hK;(focus (simp only [go_sem];exact rfl));clear hK hP K'))
     refine Af rfl ?_;intro K' hK hP;simp only [go_sem]
     refine ((Aaq tv hvk.1 hvk.2 _)).mono ?_;rintro _ _ ⟨rfl,rfl⟩;simp only [go_sem]
     refine⟨rfl,Vb hWl hW1,?_⟩
     apply hK;(focus (simp only [go_sem];exact rfl));clear hK hP K'
     repeat (first|apply A0|apply An|apply Ar|apply A1|apply Ap|apply As rfl|apply Ao rfl|apply Al rfl|(refine Af rfl ?_;intro K' hK hP;simp only [go_sem,w1];apply hK;(focus (simp only [go_sem];exact rfl));clear hK hP K'))
     exact BK (k+1) (by rw [hsr];rfl) hlt (by omega)
   have b2:(tk == 2)=false:=beq_eq_false_iff_ne.2 k2
   by_cases k3:tk=3
   . have b3:(tk == 3)=true:=beq_iff_eq.2 k3
     have hwd:CV (HD ⟨tk,ta,ts,tv⟩)=[[.lit (.string ⟨⟨34::Lx.quoted ts++[34]⟩⟩)]]:=by unfold HD;rw [if_neg n14,if_neg k2,if_pos k3];rfl
     rw [hwd] at hsr
     obtain⟨hrep,htl⟩:=hqk.resolve_left (fun h=>h k3)
     obtain⟨R,hR,hvc⟩:=hrep ts htl
     repeat (first|apply A0|apply An|apply Ar|apply A1|apply Ap|apply As rfl|apply Ao rfl|apply Al rfl|(refine Af rfl ?_;intro K' hK hP;simp only [go_sem,b1,b4,b2,b3];apply hK;(focus (simp only [go_sem];exact rfl));clear hK hP K'))
     refine YA rfl ?_;intro K' hK hP;simp only [go_sem]
     refine⟨rfl,?_⟩
     refine (if_pos (by kernel_rfl)).mpr ?_
     refine⟨rfl,?_⟩
     refine Ab9.mono ?_;rintro _ _ ⟨rfl,rfl⟩;simp only [go_sem]
     refine (if_neg (Bool.eq_false_iff.1 (by kernel_rfl))).mpr ?_
     have hsh:PV.shiftL 1 LC=LC:=rfl
     have hat:=at1 (E:=[.lit (.int .i64 tk),.lit (.int .i64 ta),.lit (.string ⟨⟨ts⟩⟩),.lit (.int .i64 tv)]) rfl rfl hR rfl hvc
     rw [hsh]
     have hcat:({ data:=#[34] }++{ data:={ toList:=Lx.quoted ts } }++{ data:=#[34] }:ByteArray)=⟨⟨34::Lx.quoted ts++[34]⟩⟩:=by
      show ((⟨⟨[34]⟩⟩:ByteArray)++⟨⟨Lx.quoted ts⟩⟩)++⟨⟨[34]⟩⟩=_
      rw [Xz,Xz];rfl
     have hql:=Ik ts
     refine (hat).mono ?_;rintro _ _ ⟨rfl,rfl⟩;simp only [go_sem,hcat]
     refine⟨by show 1+(Lx.quoted ts).length<=_;omega,by show 1+(Lx.quoted ts).length+1<=_;omega,rfl,Vb hWl hW1,?_⟩
     apply hK;(focus (simp only [go_sem];exact rfl));clear hK hP K'
     repeat (first|apply A0|apply An|apply Ar|apply A1|apply Ap|apply As rfl|apply Ao rfl|apply Al rfl|(refine Af rfl ?_;intro K' hK hP;simp only [go_sem,w1];apply hK;(focus (simp only [go_sem];exact rfl));clear hK hP K'))
     exact BK (k+1) (by rw [hsr];rfl) hlt (by omega)
   have b3:(tk == 3)=false:=beq_eq_false_iff_ne.2 k3
   have hwd:CV (HD ⟨tk,ta,ts,tv⟩)=[]:=by unfold HD;rw [if_neg n14,if_neg k2,if_neg k3];rfl
   rw [hwd,List.append_nil] at hsr
   repeat (first|apply A0|apply An|apply Ar|apply A1|apply Ap|apply As rfl|apply Ao rfl|apply Al rfl|(refine Af rfl ?_;intro K' hK hP;simp only [go_sem,b1,b4,b2,b3,w1];apply hK;(focus (simp only [go_sem];exact rfl));clear hK hP K'))
   exact BK (k+1) (by rw [hsr];rfl) hlt (by omega)
 . have d1:decide ((k:Int)<(Z.length:Int))=false:=by rw [decide_eq_false_iff_not];omega
   obtain rfl:k=l.length:=by omega
   rw [List.take_length]
   repeat (first|apply A0|apply An|apply Ar|apply A1|apply Ap|apply As rfl|apply Ao rfl|apply Al rfl|(refine Af rfl ?_;intro K' hK hP;simp only [go_sem,d1];apply hK;(focus (simp only [go_sem];exact rfl));clear hK hP K'))
   refine Af rfl ?_;intro K' hK hP;simp only [go_sem];refine ((Aap (Fz l) _ ⟨⟨[32]⟩⟩ (by have:=MA l;omega) hw _)).mono ?_;rintro _ _ ⟨rfl,rfl⟩;simp only [go_sem];apply hK;(focus (simp only [go_sem];exact rfl));clear hK hP K'
   repeat (first|apply A0|apply An|apply Ar|apply A1|apply Ap|apply As rfl|apply Ao rfl|apply Al rfl|(refine Af rfl ?_;intro K' hK hP;simp only [go_sem];apply hK;(focus (simp only [go_sem];exact rfl));clear hK hP K'))
   refine Bq ?_;simp only [go_sem,Tryz.results66]
theorem Zc (l:List RT)(hl:l.length<=1000000)(hv:∀ t∈l,-9223372036854775808<=t.v/\t.v<=9223372036854775807)(hw:(Lib.join (Fz l) [32]).length<=140737488355328)(hq:∀ t∈l,t.k≠3∨(Rep/\t.s.length<=1000000))(g:Grow) :
 VC Tryz.prog 66 [.sl (l.map UB) g] σ fun x σ'=>x=.ret (.lit (.string ⟨⟨Lib.join (Fz l) [32]⟩⟩))/\σ'=σ:=by
 refine VC.pure ((XK l hl hv hw hq g).mono ?_) rfl
 rintro _ _ ⟨rfl,rfl⟩
 exact⟨rfl,rfl⟩
end Go.Proofs.YtkcfmlfkfagejaaGreatDoor
