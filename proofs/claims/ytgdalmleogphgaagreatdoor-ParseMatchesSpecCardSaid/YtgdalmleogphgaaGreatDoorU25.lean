/-
  The reference's lexer, walked in plain values: Tokens. Plain facts for examples: what is read by running; line feeds and wide characters. No program. The contracts of strconv.Itoa and strings.Join, laid at this program (written by the kit's own tools, in plain words).
-/
import Derived.Laws.RangeAny
import Derived.Shelf.Strings.OnBuilder
import Derived.Shelf.Strings.Builder2Cap
import Derived.Shelf.LaysM
import Derived.Shelf.Strconv.Itoa3
import Derived.Test.YtgdalmleogphgaaGreatDoorProg
import Derived.Test.YtgdalmleogphgaaGreatDoorU2
import Derived.Test.YtgdalmleogphgaaGreatDoorU22
import Derived.Test.YtgdalmleogphgaaGreatDoorU23
import Derived.Test.YtgdalmleogphgaaGreatDoorU24
namespace Go.Proofs.YtgdalmleogphgaaGreatDoor
open Go.RowKit Go.Q Go.Lx Go.Vl
set_option maxRecDepth 100000
variable {σ:List (List PV)}
theorem vTokens (src:ByteArray)(hs:src.size<=1000000)(rows:List (List PV))(p e:Nat)(hr:∀ rows' p' e',ReadP src rows' p' e'->rows'=rows/\p'=p/\e'=e) :
 VC Tryz.prog 43 [.lit (.string src)] σ fun x σ'=>x=.ret (.tup [.sl rows .shared,.agg [.lit (.int .i64 (p:Int)),.lit (.int .i64 (e:Int))]])/\σ'=σ:=by
 refine VC.pure ((vTokens0 src hs).less ?_) rfl
 rintro x _ ⟨rfl,rows',p',e',g,h,rfl⟩
 obtain⟨rfl,rfl,rfl⟩:=hr _ _ _ h
 exact⟨_,⟨rfl,rfl⟩,fun _ _ _ h=>h.share⟩
theorem vRefBlank (s:ByteArray)(p:Nat)(hp:p<=s.size)(hs:s.size<=1000000):VC Tryz.prog 53 [.lit (.string s),.lit (.int .i64 (p:Int))] σ fun x σ'=>x=.ret (.lit (.int .i64 ((s.size-(skip false ((bl s).drop p)).length:Nat):Int)))/\σ'=σ :=
 VC.lits [.string s,.int .i64 (p:Int)] _ fun w _=>(refBlank s p hp hs).mono fun _ _ h=>⟨h.1,by rw [h.2];exact Below.refl _ _⟩
def oneP (n p:Nat):Out->PV
 |.ok k s v t=>.agg [.lit (.int .i64 (k:Int)),.lit (.int .i64 (p:Int)),.lit (.string ⟨⟨s⟩⟩),.lit (.int .i64 (v:Int)),.lit (.int .i64 ((n-t.length:Nat):Int)),.lit (.int .i64 0)]
 |.bad x=>.agg [.lit (.int .i64 0),.lit (.int .i64 0),.lit (.string ⟨#[]⟩),.lit (.int .i64 0),.lit (.int .i64 0),.lit (.int .i64 (x:Int))]
theorem vRefToken (s:ByteArray)(p:Nat)(hp:p<s.size)(hs:s.size<=1000000):VC Tryz.prog 54 [.lit (.string s),.lit (.int .i64 (p:Int))] σ fun x σ'=>x=.ret (oneP s.size p (Lx.tok ((bl s).drop p)))/\σ'=σ:=by
 cases ht:Lx.tok ((bl s).drop p) with
 |ok k t v r =>
  refine VC.litAgg [.string s,.int .i64 (p:Int)] [.int .i64 (k:Int),.int .i64 (p:Int),.string ⟨⟨t⟩⟩,.int .i64 (v:Int),.int .i64 ((s.size-r.length:Nat):Int),.int .i64 0] (by simp [Value.oneCell']) fun w _=>(refToken s p hp hs).mono fun e w' h=>?_
  rw [ht] at h
  obtain⟨⟨b,hb,he⟩,h2⟩:=h
  subst hb
  exact⟨he,h2⟩
 |bad x =>
  refine VC.litAgg [.string s,.int .i64 (p:Int)] [.int .i64 0,.int .i64 0,.string ⟨#[]⟩,.int .i64 0,.int .i64 0,.int .i64 (x:Int)] (by simp [Value.oneCell']) fun w _=>(refToken s p hp hs).mono fun e w' h=>?_
  rw [ht] at h
  exact h
theorem vRefTokens0 (src:ByteArray)(hs:src.size<=1000000) :
 VC Tryz.prog 29 [.lit (.string src)] [] fun x σ'=>σ'=[]/\∃ rows p e,ReadP src rows p e/\x=.ret (.agg [.sl rows .shared,.lit (.int .i64 (p:Int)),.lit (.int .i64 (e:Int))]):=by
 refine VC.intro ⟨[0,2,3,4,5,8,16,22],[]⟩ Tryz.func29 rfl follows ok29 (by rw [Tryz.ntmps29];exact Nat.le_of_ble_eq_true rfl) ?_;refine WS_of ?_
 repeat (first|refine WS_seq ?_|refine WS_block ?_|refine WS_skip ?_|refine WS_blk ?_|refine WS_label ?_|refine WS_exit rfl ?_|refine WS_true rfl ?_|refine WS_false rfl ?_|(refine WS_region rfl ?_;intro K' hK hP;simp only [go_sem];apply hK;(focus (simp only [go_sem];exact rfl));clear hK hP K'))
 by_cases h64:65536<src.size
 . have d1:decide ((65536:Int)<(src.size:Int))=true:=by rw [decide_eq_true_eq];omega
   refine WS_true (by simp only [go_sem,d1]) ?_
   repeat (first|refine WS_seq ?_|refine WS_block ?_|refine WS_skip ?_|refine WS_blk ?_|refine WS_label ?_|refine WS_exit rfl ?_|refine WS_true rfl ?_|refine WS_false rfl ?_|(refine WS_region rfl ?_;intro K' hK hP;simp only [go_sem];apply hK;(focus (simp only [go_sem];exact rfl));clear hK hP K'))
   refine WS_ret ?_;simp only [go_sem,Tryz.results29]
   exact⟨[],0,2,.inl ⟨h64,rfl,rfl,rfl⟩,rfl⟩
 have d1:decide ((65536:Int)<(src.size:Int))=false:=by rw [decide_eq_false_iff_not];omega
 refine WS_false (by simp only [go_sem,d1]) ?_
 repeat (first|refine WS_seq ?_|refine WS_block ?_|refine WS_skip ?_|refine WS_blk ?_|refine WS_label ?_|refine WS_exit rfl ?_|refine WS_true rfl ?_|refine WS_false rfl ?_|(refine WS_region rfl ?_;intro K' hK hP;simp only [go_sem];apply hK;(focus (simp only [go_sem];exact rfl));clear hK hP K'))
 refine WS_region rfl ?_;intro K' hK hP;simp only [go_sem];refine ((vRefBlank src 0 (Nat.zero_le _) hs)).mono ?_;rintro _ _ ⟨rfl,rfl⟩;simp only [go_sem];apply hK;(focus (simp only [go_sem];exact rfl));clear hK hP K'
 repeat (first|refine WS_seq ?_|refine WS_block ?_|refine WS_skip ?_|refine WS_blk ?_|refine WS_label ?_|refine WS_exit rfl ?_|refine WS_true rfl ?_|refine WS_false rfl ?_|(refine WS_region rfl ?_;intro K' hK hP;simp only [go_sem];apply hK;(focus (simp only [go_sem];exact rfl));clear hK hP K'))
 have hp0:=skip_at src 0
 rw [List.drop_zero] at hp0
 refine WS_for [0,2,3,4] 1 (fun a:List Tok×Nat=>a.2<=src.size/\a.1.length<=a.2/\Sofar src.size (skip false (bl src)) a.1 ((bl src).drop a.2)) (fun a=>src.size-a.2)
  (fun a=>⟨[(0,.lit (.string src)),(2,.ptr 0 0),(3,.sl (a.1.map tkR) .own),(4,.lit (.int .i64 (a.2:Int)))],[[.sl [] .own,.lit (.int .i64 0),.lit (.int .i64 0)]]⟩) ([],src.size-(skip false (bl src)).length) (Nat.zero_le _) ?_ ⟨hp0.2,Nat.zero_le _,?_⟩ ?_
 . exact rfl
 . simp only
   rw [hp0.1];exact Sofar.nil _ _
 rintro⟨L,p⟩ ⟨h1,h2,h3⟩
 simp only at h1 h2 h3 ⊢
 have hxl:∀ x∈L.map tkR,x.length=4:=tkR_len
 have hll:(L.map tkR).length=L.length:=List.length_map ..
 by_cases hp:p<src.size
 . have d2:decide ((p:Int)<(src.size:Int))=true:=by rw [decide_eq_true_eq];omega
   have hne:(bl src).drop p≠[]:=by rw [bl_drop src p hp];simp
   have hlr:((bl src).drop p).length=src.size-p:=by rw [List.length_drop,bl_len]
   have hn:=vRefToken (σ:=[[.sl [] .own,.lit (.int .i64 0),.lit (.int .i64 0)]]) src p hp hs
   repeat (first|refine WS_seq ?_|refine WS_block ?_|refine WS_skip ?_|refine WS_blk ?_|refine WS_label ?_|refine WS_exit rfl ?_|refine WS_true rfl ?_|refine WS_false rfl ?_|(refine WS_region rfl ?_;intro K' hK hP;simp only [go_sem,d2];apply hK;(focus (simp only [go_sem];exact rfl));clear hK hP K'))
   cases ht:Lx.tok ((bl src).drop p) with
   |bad e =>
    rw [ht] at hn
    unfold oneP at hn
    have he0:=tok_bad_code ht
    have b1:((e:Int) == 0)=false:=beq_eq_false_iff_ne.2 (by omega)
    refine WS_region rfl ?_;intro K' hK hP;simp only [go_sem];refine (hn).mono ?_;rintro _ _ ⟨rfl,rfl⟩;simp only [go_sem];apply hK;(focus (simp only [go_sem];exact rfl));clear hK hP K'
    repeat (first|refine WS_seq ?_|refine WS_block ?_|refine WS_skip ?_|refine WS_blk ?_|refine WS_label ?_|refine WS_exit rfl ?_|refine WS_true rfl ?_|refine WS_false rfl ?_|(refine WS_region rfl ?_;intro K' hK hP;simp only [go_sem,bne,b1];apply hK;(focus (simp only [go_sem];exact rfl));clear hK hP K'))
    refine WS_ret ?_;simp only [go_sem,Tryz.results29]
    refine⟨[],p,e,.inr ⟨by omega,.inr ⟨?_,rfl⟩⟩,rfl⟩
    have hb:=h3.2 _ _ (Lx.Bad.here hne ht)
    rw [hlr,show src.size-(src.size-p)=p by omega] at hb
    exact hb
   |ok k s v t =>
    have hq:=rest_at src p (tok_parts ht).2.1
    have htl:=tok_len ht
    have hsk:=skip_at src (src.size-t.length)
    rw [hq.1] at hsk
    have hkl:=skip_len false t
    have hso:=h3.cons ht
    rw [hlr,show src.size-(src.size-p)=p by omega] at hso
    have er:L.map tkR++[[.lit (.int .i64 (k:Int)),.lit (.int .i64 (p:Int)),.lit (.string ⟨⟨s⟩⟩),.lit (.int .i64 (v:Int))]]=(L++[(⟨k,p,s,v⟩:Tok)]).map tkR:=by rw [List.map_append];rfl
    rw [ht] at hn
    unfold oneP at hn
    refine WS_region rfl ?_;intro K' hK hP;simp only [go_sem];refine (hn).mono ?_;rintro _ _ ⟨rfl,rfl⟩;simp only [go_sem];apply hK;(focus (simp only [go_sem];exact rfl));clear hK hP K'
    repeat (first|refine WS_seq ?_|refine WS_block ?_|refine WS_skip ?_|refine WS_blk ?_|refine WS_label ?_|refine WS_exit rfl ?_|refine WS_true rfl ?_|refine WS_false rfl ?_|(refine WS_region rfl ?_;intro K' hK hP;simp only [go_sem];apply hK;(focus (simp only [go_sem];exact rfl));clear hK hP K'))
    refine WS_region rfl ?_;intro K' hK hP;simp only [go_sem,er]
    refine⟨rfl,app_ok (by rw [hll];exact Nat.le_trans (Nat.mul_le_mul_right _ (show L.length+1<=1000001 by omega)) (by decide)) hxl rfl,?_⟩
    apply hK;(focus (simp only [go_sem];exact rfl));clear hK hP K'
    repeat (first|refine WS_seq ?_|refine WS_block ?_|refine WS_skip ?_|refine WS_blk ?_|refine WS_label ?_|refine WS_exit rfl ?_|refine WS_true rfl ?_|refine WS_false rfl ?_|(refine WS_region rfl ?_;intro K' hK hP;simp only [go_sem];apply hK;(focus (simp only [go_sem];exact rfl));clear hK hP K'))
    have hb:=vRefBlank (σ:=[[.sl [] .own,.lit (.int .i64 0),.lit (.int .i64 0)],[.lit (.int .i64 (k:Int)),.lit (.int .i64 (p:Int)),.lit (.string ⟨⟨s⟩⟩),.lit (.int .i64 (v:Int)),.lit (.int .i64 ((src.size-t.length:Nat):Int)),.lit (.int .i64 0)]]) src (src.size-t.length) hq.2 hs
    rw [hq.1] at hb
    refine WS_region rfl ?_;intro K' hK hP;simp only [go_sem];refine (hb).mono ?_;rintro _ _ ⟨rfl,rfl⟩;simp only [go_sem];apply hK;(focus (simp only [go_sem];exact rfl));clear hK hP K'
    repeat (first|refine WS_seq ?_|refine WS_block ?_|refine WS_skip ?_|refine WS_blk ?_|refine WS_label ?_|refine WS_exit rfl ?_|refine WS_true rfl ?_|refine WS_false rfl ?_|(refine WS_region rfl ?_;intro K' hK hP;simp only [go_sem];apply hK;(focus (simp only [go_sem];exact rfl));clear hK hP K'))
    exact WS_again (L++[(⟨k,p,s,v⟩:Tok)],src.size-(skip false t).length) rfl ⟨hsk.2,by simp only [List.length_append,List.length_cons,List.length_nil];omega,by simp only;rw [hsk.1];exact hso⟩ (by simp only;omega)
 . have d2:decide ((p:Int)<(src.size:Int))=false:=by rw [decide_eq_false_iff_not];omega
   obtain rfl:p=src.size:=by omega
   have er:L.map tkR++[[.lit (.int .i64 5),.lit (.int .i64 (src.size:Int)),.lit (.string ⟨#[]⟩),.lit (.int .i64 0)]]=(L++[(⟨5,src.size,[],0⟩:Tok)]).map tkR:=by rw [List.map_append];rfl
   obtain⟨r0,X,hX⟩:∃ r0 X,(L++[(⟨5,src.size,[],0⟩:Tok)]).map tkR=r0::X:=by cases L<;>exact⟨_,_,rfl⟩
   rw [hX] at er
   repeat (first|refine WS_seq ?_|refine WS_block ?_|refine WS_skip ?_|refine WS_blk ?_|refine WS_label ?_|refine WS_exit rfl ?_|refine WS_true rfl ?_|refine WS_false rfl ?_|(refine WS_region rfl ?_;intro K' hK hP;simp only [go_sem,d2];apply hK;(focus (simp only [go_sem];exact rfl));clear hK hP K'))
   refine WS_region rfl ?_;intro K' hK hP;simp only [go_sem,er]
   refine⟨rfl,app_ok (by rw [hll];exact Nat.le_trans (Nat.mul_le_mul_right _ (show L.length+1<=1000001 by omega)) (by decide)) hxl rfl,?_⟩
   apply hK;(focus (simp only [go_sem];exact rfl));clear hK hP K'
   repeat (first|refine WS_seq ?_|refine WS_block ?_|refine WS_skip ?_|refine WS_blk ?_|refine WS_label ?_|refine WS_exit rfl ?_|refine WS_true rfl ?_|refine WS_false rfl ?_|(refine WS_region rfl ?_;intro K' hK hP;simp only [go_sem];apply hK;(focus (simp only [go_sem];exact rfl));clear hK hP K'))
   refine WS_ret ?_;simp only [go_sem,Tryz.results29]
   refine⟨_,0,0,.inr ⟨by omega,.inl ⟨L++[(⟨5,src.size,[],0⟩:Tok)],h3.1 _ ?_,hX.symm,rfl,rfl⟩⟩,rfl⟩
   rw [bl_end];exact .fin
end Go.Proofs.YtgdalmleogphgaaGreatDoor
namespace Go.Lx
theorem toks_run (n:Nat):∀ (f:Nat) (r:List UInt8),r.length<=f->(∀ l,toks n f r=.ok l->Good n r l)/\∀ p e,toks n f r=.error (p,e)->Bad n r p e
 |0,r,h=>by
  obtain rfl:=List.eq_nil_of_length_eq_zero (Nat.le_zero.1 h)
  refine⟨fun l hl=>?_,fun p e he=>?_⟩
  . unfold toks at hl;cases hl;exact .fin
  . unfold toks at he;cases he
 |f+1,r,h=>by
  cases r with
  |nil =>
   refine⟨fun l hl=>?_,fun p e he=>?_⟩
   . unfold toks at hl;cases hl;exact .fin
   . unfold toks at he;cases he
  |cons c r0 =>
   unfold toks
   simp only
   cases ht:tok (c::r0) with
   |bad e1 =>
    refine⟨fun l hl=>(by cases hl),fun p e he=>?_⟩
    cases he;exact .here (by simp) ht
   |ok k s v t =>
    have h1:=tok_len ht
    have h2:=skip_len false t
    have ih:=toks_run n f (skip false t) (by omega)
    simp only
    cases hx:toks n f (skip false t) with
    |error x =>
     refine⟨fun l hl=>(by cases hl),fun p e he=>?_⟩
     obtain⟨p1,e1⟩:=x
     cases he;exact .later ht (ih.2 _ _ hx)
    |ok l1 =>
     refine⟨fun l hl=>?_,fun p e he=>(by cases he)⟩
     cases hl;exact .cons ht (ih.1 _ hx)
theorem tokens_good {l:List UInt8}{ts:List Tok}(h:tokens l=.ok ts):Good l.length (skip false l) ts:=(toks_run _ _ _ (skip_len false l)).1 _ h
theorem tokens_bad {l:List UInt8}{p e:Nat}(h:tokens l=.error (p,e)):Bad l.length (skip false l) p e:=(toks_run _ _ _ (skip_len false l)).2 _ _ h
end Go.Lx
namespace Go.Proofs.YtgdalmleogphgaaGreatDoor
open Go.RowKit Go.Q Go.Lx
end Go.Proofs.YtgdalmleogphgaaGreatDoor
namespace Go.Proofs
open Go.Shelf
def Tryz.lays156_ren:Go.Shelf.Ren:=⟨fun|156=>67|165=>91|166=>92|169=>93|240=>109|241=>110|276=>128|277=>129|n=>n,fun|31=>42|9=>9|3=>3|4=>4|0=>0|20=>20|72=>159|76=>162|70=>156|37=>157|75=>161|127=>178|164=>202|5=>5|80=>164|n=>n,fun|n=>n⟩
theorem Tryz.lays156:Go.Proofs.Lays.n156 Tryz.prog Tryz.lays156_ren:={
 mixed:=by kernel_rfl
 f156:=Tryz.func67.trans (congrArg some (by kernel_rfl))
 f165:=Tryz.func91.trans (congrArg some (by kernel_rfl))
 f166:=Tryz.func92.trans (congrArg some (by kernel_rfl))
 f169:=Tryz.func93.trans (congrArg some (by kernel_rfl))
 f240:=Tryz.func109.trans (congrArg some (by kernel_rfl))
 f241:=Tryz.func110.trans (congrArg some (by kernel_rfl))
 f276:=Tryz.func128.trans (congrArg some (by kernel_rfl))
 f277:=Tryz.func129.trans (congrArg some (by kernel_rfl))
 t0:=Tryz.underlying0
 a0:=Tryz.isAgg0
 z0:=Tryz.sizeOf0
 v0:=Tryz.zeroValue0
 t3:=Tryz.underlying3
 a3:=Tryz.isAgg3
 z3:=Tryz.sizeOf3
 v3:=Tryz.zeroValue3
 t4:=Tryz.underlying4
 a4:=Tryz.isAgg4
 z4:=Tryz.sizeOf4
 v4:=Tryz.zeroValue4
 t9:=Tryz.underlying9
 a9:=Tryz.isAgg9
 z9:=Tryz.sizeOf9
 v9:=Tryz.zeroValue9
 t20:=Tryz.underlying20
 a20:=Tryz.isAgg20
 z20:=Tryz.sizeOf20
 v20:=Tryz.zeroValue20
 t31:=Tryz.underlying42
 a31:=Tryz.isAgg42
 z31:=Tryz.sizeOf42
 v31:=Tryz.zeroValue42
 t37:=Tryz.underlying157
 a37:=Tryz.isAgg157
 z37:=Tryz.sizeOf157
 v37:=Tryz.zeroValue157
 t70:=Tryz.underlying156
 a70:=Tryz.isAgg156
 z70:=Tryz.sizeOf156
 v70:=Tryz.zeroValue156
 t72:=Tryz.underlying159
 a72:=Tryz.isAgg159
 z72:=Tryz.sizeOf159
 v72:=Tryz.zeroValue159
 t75:=Tryz.underlying161
 a75:=Tryz.isAgg161
 z75:=Tryz.sizeOf161
 v75:=Tryz.zeroValue161
 t76:=Tryz.underlying162
 a76:=Tryz.isAgg162
 z76:=Tryz.sizeOf162
 v76:=Tryz.zeroValue162
 t127:=Tryz.underlying178
 a127:=Tryz.isAgg178
 z127:=Tryz.sizeOf178
 v127:=Tryz.zeroValue178
 t164:=Tryz.underlying202
 a164:=Tryz.isAgg202
 z164:=Tryz.sizeOf202
 v164:=Tryz.zeroValue202 }
theorem Tryz.Builder_Extra_156:Builder.Extra Tryz.prog Tryz.lays156_ren:={
 sizeBuilder:=by kernel_rfl
 liesBuilder:=by kernel_rfl
 t5:=Tryz.underlying5
 a5:=Tryz.isAgg5
 z5:=Tryz.sizeOf5
 v5:=Tryz.zeroValue5
 infoByte:=by kernel_rfl
 cellsByte:=by kernel_rfl
 sizeByte:=by kernel_rfl
 neB5:=by decide }
open Go.RowKit in
theorem Tryz.strings_Join_none (a:Option Addr)(c:Nat)(sep:ByteArray)(w:World) :
 Calls Tryz.prog 67 #[.slice a 0 c,.string sep] w fun e w'=>e=.returned (.string ⟨#[]⟩)/\w'=w:=Any.strings_Join_none Tryz.lays156 Tryz.Builder_Extra_156 a c sep w
open Go.RowKit in
theorem Tryz.strings_Join (bk o c:Nat)(xs:List ByteArray)(sep:ByteArray)(w:World)(hcells:∀ (j:Nat) x,xs[j]?=some x->w.cell? ⟨bk,o+j,none⟩=some (.string x))(hbk:bk<w.heap.size)(hN:xs.length<=140737488355328)(hcap:xs.length<=c)(hlen:(Lib.join (xs.map (·.data.toList)) sep.data.toList).length<=140737488355328) :
 Calls Tryz.prog 67 #[.slice (some ⟨bk,o,none⟩) xs.length c,.string sep] w fun e w'=>e=.returned (.string ⟨(Lib.join (xs.map (·.data.toList)) sep.data.toList).toArray⟩)/\Below w.heap.size w w':=Any.strings_Join Tryz.lays156 Tryz.Builder_Extra_156 bk o c xs sep w hcells hbk hN hcap hlen
def Tryz.laysM171_ren:Go.Shelf.Ren:=⟨fun|171=>64|243=>88|246=>105|283=>118|284=>119|285=>120|286=>121|129=>138|317=>137|318=>139|319=>140|320=>141|337=>155|338=>156|n=>n,fun|3=>3|9=>9|2=>2|4=>4|171=>181|0=>0|53=>182|37=>157|5=>5|173=>185|212=>210|51=>142|20=>20|213=>211|46=>213|232=>266|233=>267|n=>n,fun|17=>1|18=>6|19=>7|n=>n⟩
theorem Tryz.laysM171:Go.Proofs.LaysM.n171 Tryz.prog Tryz.laysM171_ren:={
 mixed:=by kernel_rfl
 f129:=Tryz.func138.trans (congrArg some (by kernel_rfl))
 f171:=Tryz.func64.trans (congrArg some (by kernel_rfl))
 f243:=Tryz.func88.trans (congrArg some (by kernel_rfl))
 f246:=Tryz.func105.trans (congrArg some (by kernel_rfl))
 f283:=Tryz.func118.trans (congrArg some (by kernel_rfl))
 f284:=Tryz.func119.trans (congrArg some (by kernel_rfl))
 f285:=Tryz.func120.trans (congrArg some (by kernel_rfl))
 f286:=Tryz.func121.trans (congrArg some (by kernel_rfl))
 f317:=Tryz.func137.trans (congrArg some (by kernel_rfl))
 f318:=Tryz.func139.trans (congrArg some (by kernel_rfl))
 f319:=Tryz.func140.trans (congrArg some (by kernel_rfl))
 f320:=Tryz.func141.trans (congrArg some (by kernel_rfl))
 f337:=Tryz.func155.trans (congrArg some (by kernel_rfl))
 f338:=Tryz.func156.trans (congrArg some (by kernel_rfl))
 t0:=Tryz.underlying0
 a0:=Tryz.isAgg0
 z0:=Tryz.sizeOf0
 v0:=Tryz.zeroValue0
 t2:=Tryz.underlying2
 a2:=Tryz.isAgg2
 z2:=Tryz.sizeOf2
 v2:=Tryz.zeroValue2
 t3:=Tryz.underlying3
 a3:=Tryz.isAgg3
 z3:=Tryz.sizeOf3
 v3:=Tryz.zeroValue3
 t4:=Tryz.underlying4
 a4:=Tryz.isAgg4
 z4:=Tryz.sizeOf4
 v4:=Tryz.zeroValue4
 t5:=Tryz.underlying5
 a5:=Tryz.isAgg5
 z5:=Tryz.sizeOf5
 v5:=Tryz.zeroValue5
 t9:=Tryz.underlying9
 a9:=Tryz.isAgg9
 z9:=Tryz.sizeOf9
 v9:=Tryz.zeroValue9
 t20:=Tryz.underlying20
 a20:=Tryz.isAgg20
 z20:=Tryz.sizeOf20
 v20:=Tryz.zeroValue20
 t37:=Tryz.underlying157
 a37:=Tryz.isAgg157
 z37:=Tryz.sizeOf157
 v37:=Tryz.zeroValue157
 t46:=Tryz.underlying213
 a46:=Tryz.isAgg213
 z46:=Tryz.sizeOf213
 v46:=Tryz.zeroValue213
 t51:=Tryz.underlying142
 a51:=Tryz.isAgg142
 z51:=Tryz.sizeOf142
 v51:=Tryz.zeroValue142
 t53:=Tryz.underlying182
 a53:=Tryz.isAgg182
 z53:=Tryz.sizeOf182
 v53:=Tryz.zeroValue182
 t171:=Tryz.underlying181
 a171:=Tryz.isAgg181
 z171:=Tryz.sizeOf181
 v171:=Tryz.zeroValue181
 t173:=Tryz.underlying185
 a173:=Tryz.isAgg185
 z173:=Tryz.sizeOf185
 v173:=Tryz.zeroValue185
 t212:=Tryz.underlying210
 a212:=Tryz.isAgg210
 z212:=Tryz.sizeOf210
 v212:=Tryz.zeroValue210
 t213:=Tryz.underlying211
 a213:=Tryz.isAgg211
 z213:=Tryz.sizeOf211
 t232:=Tryz.underlying266
 a232:=Tryz.isAgg266
 z232:=Tryz.sizeOf266
 v232:=Tryz.zeroValue266
 t233:=Tryz.underlying267
 a233:=Tryz.isAgg267
 z233:=Tryz.sizeOf267
 v233:=Tryz.zeroValue267
 g17:=by kernel_rfl
 g18:=by kernel_rfl
 g19:=by kernel_rfl
 i0:=by kernel_rfl
 i2:=by kernel_rfl
 i3:=by kernel_rfl
 i4:=by kernel_rfl
 i5:=by kernel_rfl
 i9:=by kernel_rfl
 i20:=by kernel_rfl
 i37:=by kernel_rfl
 i46:=by kernel_rfl
 i51:=by kernel_rfl
 i53:=by kernel_rfl
 i171:=by kernel_rfl
 i173:=by kernel_rfl
 i212:=by kernel_rfl
 i232:=by kernel_rfl
 i233:=by kernel_rfl
 m17:=by kernel_rfl
 m18:=by kernel_rfl
 m19:=by kernel_rfl }
open Go.RowKit Go.Sort Go.Lib in
theorem Tryz.strconv_Itoa (n:Int)(h0 : -9223372036854775808<=n)(h1:n<=9223372036854775807)(w:World)(htab:Lib.TabIs Tryz.prog w "internal/strconv.uint64pow10" .u64 Lib.pow10Tab) :
 Calls Tryz.prog 64 #[.int .i64 n] w fun e w'=>e=.returned (.string ⟨(Lib.itoa n).toArray⟩)/\∃ k os,w'=grow (w.drewN k) os:=Any.strconv_Itoa Tryz.laysM171 n h0 h1 w htab
end Go.Proofs
