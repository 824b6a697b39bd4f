/-
  The lexer's Text, walked in plain values. What the lexer's functions answer, in the form that lifted walks use: Tokens, the reference's Tokens, Text.
-/
import Derived.Test.YtkcfmlfkfagejaaGreatDoorU7
import Derived.Test.YtkcfmlfkfagejaaGreatDoorU12
import Derived.Test.YtkcfmlfkfagejaaGreatDoorU24
import Derived.Test.YtkcfmlfkfagejaaGreatDoorU38
import Derived.Test.YtkcfmlfkfagejaaGreatDoorU40
set_option linter.unusedVariables false
set_option linter.unusedSimpArgs false
namespace Go.Proofs.YtkcfmlfkfagejaaGreatDoor
open Go.RowKit Go.Q Go.Lx Go.Vl
set_option maxRecDepth 100000
set_option maxHeartbeats 1000000
variable {σ:List (List PV)}
structure RT where
 k:Int
 a:Int
 s:List UInt8
 v:Int
def TL (t:RT):List PV:=[.lit (.int .i64 t.k),.lit (.int .i64 t.a),.lit (.string ⟨⟨t.s⟩⟩),.lit (.int .i64 t.v)]
def Hw (t:RT):List (List UInt8):=if t.k=1∨t.k=4 then [t.s] else if t.k=2 then [Lib.itoa t.v] else if t.k=3 then [34::Lx.quoted t.s++[34]] else []
def Fy (l:List RT):List (List UInt8):=l.flatMap Hw
theorem S0 (l:List RT)(k:Nat)(h:k<l.length):Fy (l.take (k+1))=Fy (l.take k)++Hw l[k]:=by
 unfold Fy
 rw [List.take_add_one,List.getElem?_eq_getElem h,List.flatMap_append]
 simp
theorem LO:∀ (l:List RT),(Fy l).length<=l.length
 | []=>Nat.le_refl _
 |t::l=>by
  have:=LO l
  unfold Fy at this ⊢
  rw [List.flatMap_cons,List.length_append,List.length_cons]
  have h1:(Hw t).length<=1:=by
   unfold Hw
   split
   . exact Nat.le_refl _
   . split
     . exact Nat.le_refl _
     . split
       . exact Nat.le_refl _
       . exact Nat.zero_le _
  omega
def Rep:Prop:=∀ s:List UInt8,s.length<=1000000->∃ R:List PV,PV.fitsL 0 R=true/\VC Tryz.prog 114 [.ptr 0 0,.lit (.string ⟨⟨s⟩⟩)] [NH] fun x σ'=>x=.ret (.lit (.string ⟨⟨Lx.quoted s⟩⟩))/\σ'=[R]
theorem Un {W:List (List PV)}{r:PV}(h:W.length<=1000000)(hW:∀ x∈W,x.length=1):(decide ((W.length+1)*17<=140737488355328)&&((W.all fun x=>x.length == 1)&&[[r]].all fun x=>x.length == 1))=true:=by
 rw [Bool.and_eq_true,Bool.and_eq_true]
 refine⟨decide_eq_true (by omega),List.all_eq_true.2 fun x hx=>?_,rfl⟩
 rw [hW x hx];rfl
theorem Xk (l:List RT)(hl:l.length<=1000000)(hv:∀ t∈l,-9223372036854775808<=t.v/\t.v<=9223372036854775807)(hw:(Lib.join (Fy l) [32]).length<=140737488355328)
 (hq:∀ t∈l,t.k≠3∨(Rep/\t.s.length<=1000000)) (g:Grow) :
 VC Tryz.prog 66 [.sl (l.map TL) g] [] fun x σ'=>x=.ret (.lit (.string ⟨⟨Lib.join (Fy l) [32]⟩⟩))/\σ'=[]:=by
 have hll:(l.map TL).length=l.length:=List.length_map _
 have hrow:∀ k (h:k<l.length),(l.map TL).getD k []=TL l[k]:=fun k h=>by rw [List.getD_eq_getElem?_getD,List.getElem?_map,List.getElem?_eq_getElem h];rfl
 obtain⟨Z,hZ⟩:∃ Z,l.map TL=Z:=⟨_,rfl⟩
 rw [hZ] at hll hrow ⊢
 refine VC.intro ⟨[0,2,3,5,6,7,8,9,13,14,22,30],[(12,[0,3,4,1,2,5,6,7,8,9,10])]⟩ Tryz.func66 rfl follows Aav (by rw [Tryz.ntmps66];exact Nat.le_of_ble_eq_true rfl) ?_;refine Ki ?_
 repeat (first|apply A3|apply Aq|apply Ax|apply A4|apply As|apply Ay rfl|apply Ar rfl|apply An rfl|(refine Ah rfl ?_;intro K' hK hP;simp only [go_sem];apply hK;(focus (simp only [go_sem];exact rfl));clear hK hP K'))
 refine HL [2,3,6,7,8] 0 (fun k:Nat=>k<=l.length) (fun k=>l.length-k)
  (fun k=>⟨[(2,.lit (.string ⟨#[]⟩)),(3,.sl (CZ (Fy (l.take k))) .own),(6,.sl Z .shared),(7,.lit (.int .i64 (Z.length:Int))),(8,.lit (.int .i64 (k:Int)))],[]⟩) 0 (Nat.zero_le _) ?_ (Nat.zero_le _) ?_
 . exact rfl
 rintro k hk
 by_cases hlt:k<l.length
 . have d1:decide ((k:Int)<(Z.length:Int))=true:=by rw [decide_eq_true_eq];omega
   have hr:=hrow k hlt
   have hsu:=S0 l k hlt
   have hm:=List.getElem_mem hlt
   have hvk:=hv _ hm
   have hqk:=hq _ hm
   have hwl:=LO (l.take k)
   rw [List.length_take] at hwl
   have w1:IntKind.i64.wrap ((k:Int)+1)=((k+1:Nat):Int):=Ht (by omega) (by omega)
   revert hr hsu hvk hqk
   generalize l[k]=t
   intro hr hsu hvk hqk
   obtain⟨tk,ta,ts,tv⟩:=t
   unfold TL at hr
   have hsr:CZ (Fy (l.take (k+1)))=CZ (Fy (l.take k))++CZ (Hw ⟨tk,ta,ts,tv⟩):=by rw [hsu];unfold CZ;rw [List.map_append]
   obtain⟨W,hW⟩:∃ W,CZ (Fy (l.take k))=W:=⟨_,rfl⟩
   have hWl:W.length<=1000000:=by rw [<- hW];unfold CZ;rw [List.length_map];omega
   have hW1:∀ x∈W,x.length=1:=by
    rw [<- hW]
    intro x hx
    obtain⟨y,_,rfl⟩:=List.mem_map.1 hx
    rfl
   rw [hW] at hsr ⊢
   simp only at hvk hqk hr
   repeat (first|apply A3|apply Aq|apply Ax|apply A4|apply As|apply Ay rfl|apply Ar rfl|apply An rfl|(refine Ah rfl ?_;intro K' hK hP;simp only [go_sem,d1];apply hK;(focus (simp only [go_sem];exact rfl));clear hK hP K'))
   refine Ah rfl ?_;intro K' hK hP;simp only [go_sem,hr]
   refine⟨⟨by omega,by omega⟩,?_⟩
   apply hK;(focus (simp only [go_sem];exact rfl));clear hK hP K'
   by_cases k1:tk=1
   . have b1:(tk == 1)=true:=beq_iff_eq.2 k1
     have hwd:CZ (Hw ⟨tk,ta,ts,tv⟩)=[[.lit (.string ⟨⟨ts⟩⟩)]]:=by unfold Hw;rw [if_pos (.inl k1)];rfl
     rw [hwd] at hsr
     repeat (first|apply A3|apply Aq|apply Ax|apply A4|apply As|apply Ay rfl|apply Ar rfl|apply An rfl|(refine Ah rfl ?_;intro K' hK hP;simp only [go_sem,b1];apply hK;(focus (simp only [go_sem];exact rfl));clear hK hP K'))
     refine Ah rfl ?_;intro K' hK hP;simp only [go_sem]
     refine⟨rfl,Un hWl hW1,?_⟩
     apply hK;(focus (simp only [go_sem];exact rfl));clear hK hP K'
     repeat (first|apply A3|apply Aq|apply Ax|apply A4|apply As|apply Ay rfl|apply Ar rfl|apply An rfl|(refine Ah rfl ?_;intro K' hK hP;simp only [go_sem,w1];apply hK;(focus (simp only [go_sem];exact rfl));clear hK hP K'))
     exact Ca (k+1) (by rw [hsr];rfl) hlt (by omega)
   have b1:(tk == 1)=false:=beq_eq_false_iff_ne.2 k1
   by_cases k4:tk=4
   . have b4:(tk == 4)=true:=beq_iff_eq.2 k4
     have hwd:CZ (Hw ⟨tk,ta,ts,tv⟩)=[[.lit (.string ⟨⟨ts⟩⟩)]]:=by unfold Hw;rw [if_pos (.inr k4)];rfl
     rw [hwd] at hsr
     repeat (first|apply A3|apply Aq|apply Ax|apply A4|apply As|apply Ay rfl|apply Ar rfl|apply An rfl|(refine Ah rfl ?_;intro K' hK hP;simp only [go_sem,b1,b4];apply hK;(focus (simp only [go_sem];exact rfl));clear hK hP K'))
     refine Ah rfl ?_;intro K' hK hP;simp only [go_sem]
     refine⟨rfl,Un hWl hW1,?_⟩
     apply hK;(focus (simp only [go_sem];exact rfl));clear hK hP K'
     repeat (first|apply A3|apply Aq|apply Ax|apply A4|apply As|apply Ay rfl|apply Ar rfl|apply An rfl|(refine Ah rfl ?_;intro K' hK hP;simp only [go_sem,w1];apply hK;(focus (simp only [go_sem];exact rfl));clear hK hP K'))
     exact Ca (k+1) (by rw [hsr];rfl) hlt (by omega)
   have b4:(tk == 4)=false:=beq_eq_false_iff_ne.2 k4
   have n14:¬ (tk=1∨tk=4):=fun h=>h.elim k1 k4
   by_cases k2:tk=2
   . have b2:(tk == 2)=true:=beq_iff_eq.2 k2
     have hwd:CZ (Hw ⟨tk,ta,ts,tv⟩)=[[.lit (.string ⟨⟨Lib.itoa tv⟩⟩)]]:=by unfold Hw;rw [if_neg n14,if_pos k2];rfl
     rw [hwd] at hsr
     repeat (first|apply A3|apply Aq|apply Ax|apply A4|apply As|apply Ay rfl|apply Ar rfl|apply An rfl|(refine Ah rfl ?_;intro K' hK hP;simp only [go_sem,b1,b4,b2];apply hK;(focus (simp only [go_sem];exact rfl));clear hK hP K'))
     refine Ah rfl ?_;intro K' hK hP;simp only [go_sem]
     refine ((Aad tv hvk.1 hvk.2 _)).mono ?_;rintro _ _ ⟨rfl,rfl⟩;simp only [go_sem]
     refine⟨rfl,Un hWl hW1,?_⟩
     apply hK;(focus (simp only [go_sem];exact rfl));clear hK hP K'
     repeat (first|apply A3|apply Aq|apply Ax|apply A4|apply As|apply Ay rfl|apply Ar rfl|apply An rfl|(refine Ah rfl ?_;intro K' hK hP;simp only [go_sem,w1];apply hK;(focus (simp only [go_sem];exact rfl));clear hK hP K'))
     exact Ca (k+1) (by rw [hsr];rfl) hlt (by omega)
   have b2:(tk == 2)=false:=beq_eq_false_iff_ne.2 k2
   by_cases k3:tk=3
   . have b3:(tk == 3)=true:=beq_iff_eq.2 k3
     have hwd:CZ (Hw ⟨tk,ta,ts,tv⟩)=[[.lit (.string ⟨⟨34::Lx.quoted ts++[34]⟩⟩)]]:=by unfold Hw;rw [if_neg n14,if_neg k2,if_pos k3];rfl
     rw [hwd] at hsr
     obtain⟨hrep,htl⟩:=hqk.resolve_left (fun h=>h k3)
     obtain⟨R,hR,hvc⟩:=hrep ts htl
     repeat (first|apply A3|apply Aq|apply Ax|apply A4|apply As|apply Ay rfl|apply Ar rfl|apply An rfl|(refine Ah rfl ?_;intro K' hK hP;simp only [go_sem,b1,b4,b2,b3];apply hK;(focus (simp only [go_sem];exact rfl));clear hK hP K'))
     refine Yk rfl ?_;intro K' hK hP;simp only [go_sem]
     refine⟨rfl,?_⟩
     refine (if_pos (by kernel_rfl)).mpr ?_
     refine⟨rfl,?_⟩
     refine Ab2.mono ?_;rintro _ _ ⟨rfl,rfl⟩;simp only [go_sem]
     refine (if_neg (Bool.eq_false_iff.1 (by kernel_rfl))).mpr ?_
     have hsh:PV.shiftL 1 NH=NH:=rfl
     have hat:=Y9 (E:=[.lit (.int .i64 tk),.lit (.int .i64 ta),.lit (.string ⟨⟨ts⟩⟩),.lit (.int .i64 tv)]) rfl rfl hR rfl hvc
     rw [hsh]
     have hcat:({ data:=#[34] }++{ data:={ toList:=Lx.quoted ts } }++{ data:=#[34] }:ByteArray)=⟨⟨34::Lx.quoted ts++[34]⟩⟩:=by
      show ((⟨⟨[34]⟩⟩:ByteArray)++⟨⟨Lx.quoted ts⟩⟩)++⟨⟨[34]⟩⟩=_
      rw [WG,WG];rfl
     have hql:=NI ts
     refine (hat).mono ?_;rintro _ _ ⟨rfl,rfl⟩;simp only [go_sem,hcat]
     refine⟨by show 1+(Lx.quoted ts).length<=_;omega,by show 1+(Lx.quoted ts).length+1<=_;omega,rfl,Un hWl hW1,?_⟩
     apply hK;(focus (simp only [go_sem];exact rfl));clear hK hP K'
     repeat (first|apply A3|apply Aq|apply Ax|apply A4|apply As|apply Ay rfl|apply Ar rfl|apply An rfl|(refine Ah rfl ?_;intro K' hK hP;simp only [go_sem,w1];apply hK;(focus (simp only [go_sem];exact rfl));clear hK hP K'))
     exact Ca (k+1) (by rw [hsr];rfl) hlt (by omega)
   have b3:(tk == 3)=false:=beq_eq_false_iff_ne.2 k3
   have hwd:CZ (Hw ⟨tk,ta,ts,tv⟩)=[]:=by unfold Hw;rw [if_neg n14,if_neg k2,if_neg k3];rfl
   rw [hwd,List.append_nil] at hsr
   repeat (first|apply A3|apply Aq|apply Ax|apply A4|apply As|apply Ay rfl|apply Ar rfl|apply An rfl|(refine Ah rfl ?_;intro K' hK hP;simp only [go_sem,b1,b4,b2,b3,w1];apply hK;(focus (simp only [go_sem];exact rfl));clear hK hP K'))
   exact Ca (k+1) (by rw [hsr];rfl) hlt (by omega)
 . have d1:decide ((k:Int)<(Z.length:Int))=false:=by rw [decide_eq_false_iff_not];omega
   obtain rfl:k=l.length:=by omega
   rw [List.take_length]
   repeat (first|apply A3|apply Aq|apply Ax|apply A4|apply As|apply Ay rfl|apply Ar rfl|apply An rfl|(refine Ah rfl ?_;intro K' hK hP;simp only [go_sem,d1];apply hK;(focus (simp only [go_sem];exact rfl));clear hK hP K'))
   refine Ah rfl ?_;intro K' hK hP;simp only [go_sem];refine ((Aac (Fy l) _ ⟨⟨[32]⟩⟩ (by have:=LO l;omega) hw _)).mono ?_;rintro _ _ ⟨rfl,rfl⟩;simp only [go_sem];apply hK;(focus (simp only [go_sem];exact rfl));clear hK hP K'
   repeat (first|apply A3|apply Aq|apply Ax|apply A4|apply As|apply Ay rfl|apply Ar rfl|apply An rfl|(refine Ah rfl ?_;intro K' hK hP;simp only [go_sem];apply hK;(focus (simp only [go_sem];exact rfl));clear hK hP K'))
   refine B8 ?_;simp only [go_sem,Tryz.results66]
theorem YL (l:List RT)(hl:l.length<=1000000)(hv:∀ t∈l,-9223372036854775808<=t.v/\t.v<=9223372036854775807)(hw:(Lib.join (Fy l) [32]).length<=140737488355328)(hq:∀ t∈l,t.k≠3∨(Rep/\t.s.length<=1000000))(g:Grow) :
 VC Tryz.prog 66 [.sl (l.map TL) g] σ fun x σ'=>x=.ret (.lit (.string ⟨⟨Lib.join (Fy l) [32]⟩⟩))/\σ'=σ:=by
 refine VC.pure ((Xk l hl hv hw hq g).mono ?_) rfl
 rintro _ _ ⟨rfl,rfl⟩
 exact⟨rfl,rfl⟩
end Go.Proofs.YtkcfmlfkfagejaaGreatDoor
namespace Go.Proofs.YtkcfmlfkfagejaaGreatDoor
open Go.RowKit Go.Q Go.Vl Go.Sp Go.Lx
theorem U3 (src:ByteArray):∃ p e:Nat,((Fi src).2=⟨(p:Int),(e:Int)⟩)/\∀ rows' p' e',WW src rows' p' e'->rows'=(Fi src).1.map CM/\p'=p/\e'=e:=by
 unfold Fi
 by_cases h:65536<src.size
 . rw [if_pos h]
   refine⟨0,2,rfl,fun rows' p' e' h'=>?_⟩
   rcases h' with⟨_,h1,h2,h3⟩|⟨h1,_⟩
   . exact⟨h1,h2,h3⟩
   . omega
 . rw [if_neg h]
   cases ht:Lx.tokens src.data.toList with
   |ok ts =>
    refine⟨0,0,rfl,fun rows' p' e' h'=>?_⟩
    have hg:Lx.Good src.size (skip false (bl src)) ts:=tokens_good ht
    rcases h' with⟨h1,_⟩|⟨_,⟨l',hg',h2,h3,h4⟩|⟨hb',_⟩⟩
    . omega
    . rw [hg'.unique hg] at h2
      refine⟨?_,h3,h4⟩
      rw [h2,List.map_map];rfl
    . exact (hg.notBad hb').elim
   |error x =>
    obtain⟨p,e⟩:=x
    refine⟨p,e,rfl,fun rows' p' e' h'=>?_⟩
    have hb:Lx.Bad src.size (skip false (bl src)) p e:=tokens_bad ht
    rcases h' with⟨h1,_⟩|⟨_,⟨l',hg',_⟩|⟨hb',h2⟩⟩
    . omega
    . exact (hg'.notBad hb).elim
    . have:=hb'.unique hb;exact⟨h2,this.1,this.2⟩
theorem Vs (src:ByteArray)(t:List Ac×Am)(h:Ml src=some t):Dr Tryz.prog 116 [tP src] (.tup [hP t.1 CM,.agg [iP t.2.At,iP t.2.E]]):=by
 obtain rfl:=Aa h
 obtain⟨p,e,h1,h2⟩:=U3 src
 rw [h1]
 exact fun σ=>Xj src _ p e h2
def YN (t:Ac):RT:=⟨t.Kind,t.At,t.S.data.toList,t.N⟩
theorem YK (l:List Ac)(t:ByteArray)(h:Qr l=some t):Dr Tryz.prog 66 [hP l CM] (tP t):=by
 unfold Qr at h
 split at h
 . rename_i hok
   obtain rfl:=Aa h
   obtain⟨h1,h2,h3,h4⟩:=hok
   have e1:l.map CM=(l.map YN).map TL:=by rw [List.map_map];rfl
   have e2:Fy (l.map YN)=l.flatMap Hv:=by unfold Fy;rw [List.flatMap_map];rfl
   intro σ
   have hp:=YL (σ:=σ) (l.map YN) (by simpa using h1) (fun x hx=>by
    obtain⟨y,hy,rfl⟩:=List.mem_map.1 hx
    exact h2 y hy) (by rw [e2];exact h3) (fun x hx=>by
    obtain⟨y,hy,rfl⟩:=List.mem_map.1 hx
    exact .inl (h4 y hy)) .shared
   rw [<- e1,e2] at hp
   exact hp
 . cases h
end Go.Proofs.YtkcfmlfkfagejaaGreatDoor
