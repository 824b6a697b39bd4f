/-
  The lexer, walked in plain values: Tokens.
-/
import Derived.Test.YtkcfmlfkfagejaaGreatDoorU4
import Derived.Test.YtkcfmlfkfagejaaGreatDoorU24
import Derived.Test.YtkcfmlfkfagejaaGreatDoorU35
set_option linter.unusedVariables false
set_option linter.unusedSimpArgs false
namespace Go.Proofs.YtkcfmlfkfagejaaGreatDoor
open Go.RowKit Go.Q Go.Lx Go.Vl
set_option maxRecDepth 100000
theorem Y9 {f:FuncId}{args:List PV}{E cs cs':List PV}{r:PV}(h1:PV.fitsL 0 cs=true)(h2:F4 args=true)(h3:PV.fitsL 0 cs'=true)(h4:r.pure=true)
 (h:VC Tryz.prog f (.ptr 0 0::args) [cs] fun x σ'=>x=.ret r/\σ'=[cs']):VC Tryz.prog f (.ptr 1 0::args) [E,cs] fun x σ'=>x=.ret r/\σ'=[E,cs']:=by
 refine (VC.at (σ:=[E,cs]) (k:=1) (Q:=fun x c=>x=.ret r/\c=cs') rfl h1 h2 (h.mono ?_)).mono ?_
 . rintro _ _ ⟨rfl,rfl⟩;exact⟨cs',rfl,h3,h4,rfl,rfl⟩
 . rintro _ _ ⟨c,⟨rfl,rfl⟩,rfl⟩;exact⟨rfl,rfl⟩
def Vj (t:Tok):List PV:=Vz t.at_ t.kind t.s t.n
theorem Xr {l:List Tok}:∀ x∈l.map Vj,x.length=4:=by
 intro x hx
 obtain⟨t,_,rfl⟩:=List.mem_map.1 hx
 rfl
def WW (s:ByteArray)(rows:List (List PV))(at_ e:Nat):Prop :=
 (65536<s.size/\rows=[]/\at_=0/\e=2)∨(s.size<=65536/\((∃ l,Lx.Good s.size (skip false (bl s)) l/\rows=l.map Vj/\at_=0/\e=0)∨(Lx.Bad s.size (skip false (bl s)) at_ e/\rows=[])))
theorem Vt (src:ByteArray) :
 VC Tryz.prog 116 [.lit (.string src)] [] fun x σ'=>σ'=[]/\∃ rows p e g,WW src rows p e/\x=.ret (.tup [.sl rows g,.agg [.lit (.int .i64 (p:Int)),.lit (.int .i64 (e:Int))]]):=by
 refine VC.intro ⟨[0,2,3,4,5,8,21,27],[]⟩ Tryz.func116 rfl follows Aa5 (by rw [Tryz.ntmps116];exact Nat.le_of_ble_eq_true rfl) ?_;refine Ki ?_
 repeat (first|apply A3|apply Aq|apply Ax|apply A4|apply As|apply Ay rfl|apply Ar rfl|apply An rfl|(refine Ah rfl ?_;intro K' hK hP;simp only [go_sem];apply hK;(focus (simp only [go_sem];exact rfl));clear hK hP K'))
 by_cases h64:65536<src.size
 . have d1:decide ((65536:Int)<(src.size:Int))=true:=by rw [decide_eq_true_eq];omega
   refine Ar (by simp only [go_sem,d1]) ?_
   repeat (first|apply A3|apply Aq|apply Ax|apply A4|apply As|apply Ay rfl|apply Ar rfl|apply An rfl|(refine Ah rfl ?_;intro K' hK hP;simp only [go_sem];apply hK;(focus (simp only [go_sem];exact rfl));clear hK hP K'))
   refine B8 ?_;simp only [go_sem,Tryz.results116]
   exact⟨[],0,2,_,.inl ⟨h64,rfl,rfl,rfl⟩,rfl⟩
 have hs:src.size<=1000000:=by omega
 have d1:decide ((65536:Int)<(src.size:Int))=false:=by rw [decide_eq_false_iff_not];omega
 refine An (by simp only [go_sem,d1]) ?_
 repeat (first|apply A3|apply Aq|apply Ax|apply A4|apply As|apply Ay rfl|apply Ar rfl|apply An rfl|(refine Ah rfl ?_;intro K' hK hP;simp only [go_sem];apply hK;(focus (simp only [go_sem];exact rfl));clear hK hP K'))
 have hsk0:=Y9 (E:=[.lit (.int .i64 0),.lit (.int .i64 0)]) rfl rfl rfl rfl (Yr src 0 [] (Nat.zero_le _) hs)
 rw [List.drop_zero] at hsk0
 refine Ah rfl ?_;intro K' hK hP;simp only [go_sem];refine (hsk0).mono ?_;rintro _ _ ⟨rfl,rfl⟩;simp only [go_sem];apply hK;(focus (simp only [go_sem];exact rfl));clear hK hP K'
 repeat (first|apply A3|apply Aq|apply Ax|apply A4|apply As|apply Ay rfl|apply Ar rfl|apply An rfl|(refine Ah rfl ?_;intro K' hK hP;simp only [go_sem];apply hK;(focus (simp only [go_sem];exact rfl));clear hK hP K'))
 have hp0:=TK src 0
 rw [List.drop_zero] at hp0
 refine HL [0,2,3,4] 2 (fun a:List Tok×Nat=>a.2<=src.size/\a.1.length<=a.2/\OI src.size (skip false (bl src)) a.1 ((bl src).drop a.2)) (fun a=>src.size-a.2)
  (fun a=>⟨[(0,.lit (.string src)),(2,.sl [] .own),(3,.ptr 0 0),(4,.ptr 1 0)],[[.lit (.int .i64 0),.lit (.int .i64 0)],[.lit (.string src),.lit (.int .i64 (a.2:Int)),.sl (a.1.map Vj) .own]]⟩) ([],src.size-(skip false (bl src)).length) (Nat.zero_le _) ?_ ⟨hp0.2,Nat.zero_le _,?_⟩ ?_
 . exact rfl
 . simp only
   rw [hp0.1];exact OI.nil _ _
 rintro⟨L,p⟩ ⟨h1,h2,h3⟩
 simp only at h1 h2 h3 ⊢
 have hxl:∀ x∈L.map Vj,x.length=4:=Xr
 have hll:(L.map Vj).length<=1000000:=by rw [List.length_map];omega
 by_cases hp:p<src.size
 . have d2:decide ((p:Int)<(src.size:Int))=true:=by rw [decide_eq_true_eq];omega
   have hne:(bl src).drop p≠[]:=by rw [Fw src p hp];simp
   have hlr:((bl src).drop p).length=src.size-p:=by rw [List.length_drop,Et]
   have hn:=Aaa src p (L.map Vj) hp hs hxl hll
   repeat (first|apply A3|apply Aq|apply Ax|apply A4|apply As|apply Ay rfl|apply Ar rfl|apply An rfl|(refine Ah rfl ?_;intro K' hK hP;simp only [go_sem,d2];apply hK;(focus (simp only [go_sem];exact rfl));clear hK hP K'))
   cases ht:Lx.tok ((bl src).drop p) with
   |bad e =>
    rw [ht] at hn
    have hn1:=Y9 (E:=[.lit (.int .i64 0),.lit (.int .i64 0)]) rfl rfl rfl rfl hn
    have he0:=PY ht
    have b1:((e:Int) == 0)=false:=beq_eq_false_iff_ne.2 (by omega)
    refine Ah rfl ?_;intro K' hK hP;simp only [go_sem];refine (hn1).mono ?_;rintro _ _ ⟨rfl,rfl⟩;simp only [go_sem];apply hK;(focus (simp only [go_sem];exact rfl));clear hK hP K'
    repeat (first|apply A3|apply Aq|apply Ax|apply A4|apply As|apply Ay rfl|apply Ar rfl|apply An rfl|(refine Ah rfl ?_;intro K' hK hP;simp only [go_sem,Xy,J3,X4,bne,b1];apply hK;(focus (simp only [go_sem];exact rfl));clear hK hP K'))
    refine B8 ?_;simp only [go_sem,Tryz.results116]
    refine⟨[],p,e,_,.inr ⟨by omega,.inr ⟨?_,rfl⟩⟩,rfl⟩
    have hb:=h3.2 _ _ (Lx.Bad.here hne ht)
    rw [hlr,show src.size-(src.size-p)=p by omega] at hb
    exact hb
   |ok k s v t =>
    have hq:=TM src p (tok_parts ht).2.1
    have htl:=TG ht
    have hsk:=TK src (src.size-t.length)
    rw [hq.1] at hsk
    have hkl:=skip_len false t
    have hso:=h3.cons ht
    rw [hlr,show src.size-(src.size-p)=p by omega] at hso
    have hr:Xy src p (L.map Vj) (some (.ok k s v t))=J3 src (src.size-t.length) ((L++[(⟨k,p,s,v⟩:Tok)]).map Vj):=by
     rw [List.map_append];rfl
    rw [ht,hr] at hn
    have hs1:=Yr src (src.size-t.length) ((L++[(⟨k,p,s,v⟩:Tok)]).map Vj) hq.2 hs
    rw [hq.1] at hs1
    have hs2:=Y9 (E:=[.lit (.int .i64 0),.lit (.int .i64 0)]) rfl rfl rfl rfl hs1
    have hn1:=Y9 (E:=[.lit (.int .i64 0),.lit (.int .i64 0)]) rfl rfl rfl rfl hn
    refine Ah rfl ?_;intro K' hK hP;simp only [go_sem];refine (hn1).mono ?_;rintro _ _ ⟨rfl,rfl⟩;simp only [go_sem];apply hK;(focus (simp only [go_sem];exact rfl));clear hK hP K'
    repeat (first|apply A3|apply Aq|apply Ax|apply A4|apply As|apply Ay rfl|apply Ar rfl|apply An rfl|(refine Ah rfl ?_;intro K' hK hP;simp only [go_sem,J3,X4];apply hK;(focus (simp only [go_sem];exact rfl));clear hK hP K'))
    refine Ah rfl ?_;intro K' hK hP;simp only [go_sem];refine (hs2).mono ?_;rintro _ _ ⟨rfl,rfl⟩;simp only [go_sem];apply hK;(focus (simp only [go_sem];exact rfl));clear hK hP K'
    repeat (first|apply A3|apply Aq|apply Ax|apply A4|apply As|apply Ay rfl|apply Ar rfl|apply An rfl|(refine Ah rfl ?_;intro K' hK hP;simp only [go_sem];apply hK;(focus (simp only [go_sem];exact rfl));clear hK hP K'))
    exact Ca (L++[⟨k,p,s,v⟩],src.size-(skip false t).length) rfl ⟨hsk.2,by simp only [List.length_append,List.length_cons,List.length_nil];omega,by simp only;rw [hsk.1];exact hso⟩ (by simp only;omega)
 . have d2:decide ((p:Int)<(src.size:Int))=false:=by rw [decide_eq_false_iff_not];omega
   obtain rfl:p=src.size:=by omega
   have hpt:=Y9 (E:=[.lit (.int .i64 0),.lit (.int .i64 0)]) rfl rfl rfl rfl (S4 src src.size (L.map Vj) 5 src.size ⟨#[]⟩ 0 hxl hll)
   repeat (first|apply A3|apply Aq|apply Ax|apply A4|apply As|apply Ay rfl|apply Ar rfl|apply An rfl|(refine Ah rfl ?_;intro K' hK hP;simp only [go_sem,d2];apply hK;(focus (simp only [go_sem];exact rfl));clear hK hP K'))
   refine Ah rfl ?_;intro K' hK hP;simp only [go_sem];refine (hpt).mono ?_;rintro _ _ ⟨rfl,rfl⟩;simp only [go_sem];apply hK;(focus (simp only [go_sem];exact rfl));clear hK hP K'
   have er:L.map Vj++[[.lit (.int .i64 ((5:Nat):Int)),.lit (.int .i64 (src.size:Int)),.lit (.string ⟨#[]⟩),.lit (.int .i64 0)]]=(L++[(⟨5,src.size,[],0⟩:Tok)]).map Vj:=by rw [List.map_append];rfl
   repeat (first|apply A3|apply Aq|apply Ax|apply A4|apply As|apply Ay rfl|apply Ar rfl|apply An rfl|(refine Ah rfl ?_;intro K' hK hP;simp only [go_sem,J3,er,and_self];apply hK;(focus (simp only [go_sem];exact rfl));clear hK hP K'))
   refine B8 ?_;simp only [go_sem,Tryz.results116]
   refine⟨_,0,0,_,.inr ⟨by omega,.inl ⟨L++[⟨5,src.size,[],0⟩],h3.1 _ ?_,rfl,rfl,rfl⟩⟩,rfl⟩
   rw [Mw];exact .fin
end Go.Proofs.YtkcfmlfkfagejaaGreatDoor
