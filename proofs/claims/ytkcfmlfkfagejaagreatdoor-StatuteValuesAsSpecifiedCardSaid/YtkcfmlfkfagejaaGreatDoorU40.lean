/-
  The contract of strings.Count at one byte, laid at this program (written by the kit's own tools, in plain words). Bytes replaced by pairs: walked in memory.
-/
import Derived.Shelf.Strings.Search3
import Derived.Shelf.Strings.Count
import Derived.Shelf.Small.Strs
import Derived.Shelf.LaysC
import Derived.Test.YtkcfmlfkfagejaaGreatDoorProg
import Derived.Test.YtkcfmlfkfagejaaGreatDoorU39
set_option linter.unusedVariables false
set_option linter.unusedSimpArgs false
namespace Go.Proofs
open Go.Shelf
def Tryz.lays138_ren:Go.Shelf.Ren:=⟨fun|138=>292|195=>293|218=>294|143=>222|219=>244|217=>193|225=>258|224=>259|267=>260|266=>216|314=>264|n=>n,fun|9=>9|3=>3|4=>4|5=>5|0=>0|46=>236|146=>353|51=>199|n=>n,fun|1=>1|n=>n⟩
theorem Tryz.lays138:Go.Proofs.Lays.n138 Tryz.prog Tryz.lays138_ren:={
 mixed:=by kernel_rfl
 f138:=Tryz.func292.trans (congrArg some (by kernel_rfl))
 f143:=Tryz.func222.trans (congrArg some (by kernel_rfl))
 f195:=Tryz.func293.trans (congrArg some (by kernel_rfl))
 f217:=Tryz.func193.trans (congrArg some (by kernel_rfl))
 f218:=Tryz.func294.trans (congrArg some (by kernel_rfl))
 f219:=Tryz.func244.trans (congrArg some (by kernel_rfl))
 f224:=Tryz.func259.trans (congrArg some (by kernel_rfl))
 f225:=Tryz.func258.trans (congrArg some (by kernel_rfl))
 f266:=Tryz.func216.trans (congrArg some (by kernel_rfl))
 f267:=Tryz.func260.trans (congrArg some (by kernel_rfl))
 f314:=Tryz.func264.trans (congrArg some (by kernel_rfl))
 t0:=Tryz.underlying0
 a0:=Tryz.isAgg0
 z0:=Tryz.sizeOf0
 v0:=Tryz.zeroValue0
 t3:=Tryz.underlying3
 a3:=Tryz.isAgg3
 z3:=Tryz.sizeOf3
 v3:=Tryz.zeroValue3
 t4:=Tryz.underlying4
 a4:=Tryz.isAgg4
 z4:=Tryz.sizeOf4
 v4:=Tryz.zeroValue4
 t5:=Tryz.underlying5
 a5:=Tryz.isAgg5
 z5:=Tryz.sizeOf5
 v5:=Tryz.zeroValue5
 t9:=Tryz.underlying9
 a9:=Tryz.isAgg9
 z9:=Tryz.sizeOf9
 v9:=Tryz.zeroValue9
 t46:=Tryz.underlying236
 a46:=Tryz.isAgg236
 z46:=Tryz.sizeOf236
 v46:=Tryz.zeroValue236
 t51:=Tryz.underlying199
 a51:=Tryz.isAgg199
 z51:=Tryz.sizeOf199
 v51:=Tryz.zeroValue199
 t146:=Tryz.underlying353
 a146:=Tryz.isAgg353
 z146:=Tryz.sizeOf353
 v146:=Tryz.zeroValue353
 g1:=by kernel_rfl }
open Go.RowKit Go.Lib in
theorem Tryz.strings_Count_one (s:ByteArray)(c:UInt8)(w:World) :
 Calls Tryz.prog 292 #[.string s,.string ⟨#[c]⟩] w fun e w'=>e=.returned (.int .i64 (Lib.countByte s.data.toList c))/\w'=w:=Any.strings_Count_one Tryz.lays138 s c w
end Go.Proofs
namespace Go.Proofs.YtkcfmlfkfagejaaGreatDoor
open Go.RowKit Go.Q Go.Lx Go.Vl
set_option maxRecDepth 100000
set_option maxHeartbeats 2000000
variable {w:World}
def isSp (c:UInt8):Bool:=c == 34||c == 92||c == 10
theorem Sn {c:UInt8}(h:isSp c=true):(Hu c).length=2:=by
 simp only [isSp,Bool.or_eq_true,beq_iff_eq] at h
 unfold Hu
 rcases h with (rfl|rfl)|rfl<;>rfl
theorem K4 {c:UInt8}(h:isSp c=false):Hu c=[c]:=by
 simp only [isSp,Bool.or_eq_false_iff,beq_eq_false_iff_ne] at h
 unfold Hu
 rw [if_neg (fun e=>e.elim h.1.1 h.1.2),if_neg h.2]
theorem MS:∀ {l:List UInt8},l.any isSp=false->Lx.quoted l=l
 | [],_=>rfl
 |c::l,h=>by
  rw [List.any_cons,Bool.or_eq_false_iff] at h
  have e:Lx.quoted (c::l)=Hu c++Lx.quoted l:=rfl
  rw [e,K4 h.1,MS h.2];rfl
def Vh (w:World)(X:Nat):Prop:=∀ c:UInt8,(isSp c=true/\∃ a cap x y,w.cell? ⟨X,c.toNat,none⟩=some (.slice (some a) 2 cap)/\Hu c=[x,y]/\w.cell? a=some (.int .u8 (x.toNat:Int))/\w.cell? (a.add 1)=some (.int .u8 (y.toNat:Int))) ∨
 (isSp c=false/\w.cell? ⟨X,c.toNat,none⟩=some (.slice none 0 0))
theorem MK (s:ByteArray)(k:Nat)(h:k<s.size):(bl s).take (k+1)=(bl s).take k++[s[k]]:=by
 rw [List.take_add_one]
 have:=ET s k h
 have e:(bl s)[k]?=some s[k]:=by
  have h2:=congrArg List.head? this
  rw [List.head?_drop] at h2;exact h2
 rw [e];rfl
theorem Vh.below {w w':World}{X B:Nat}(h:Vh w X)(hb:Below B w w')(hX:∀ a v,w.cell? a=some v->a.block<B):Vh w' X:=by
 intro c
 rcases h c with⟨h0,a,cap,x,y,h1,h4,h5,h6⟩|⟨h0,h1⟩
 . exact .inl ⟨h0,a,cap,x,y,(hb.cell (hX _ _ h1)).trans h1,h4,(hb.cell (hX _ _ h5)).trans h5,(hb.cell (hX _ _ h6)).trans h6⟩
 . exact .inr ⟨h0,(hb.cell (hX _ _ h1)).trans h1⟩
def buf (q:List UInt8)(N:Nat):List Value:=q.map QL++List.replicate (N-q.length) (.int .u8 0)
theorem UZ {q:List UInt8}{N:Nat}(h:q.length<=N):(buf q N).length=N:=by unfold buf;rw [List.length_append,List.length_map,List.length_replicate];omega
theorem UY {q:List UInt8}{N:Nat}(c:UInt8)(h:q.length<N):(buf q N).set q.length (QL c)=buf (q++[c]) N:=by
 unfold buf
 obtain⟨m,hm⟩:∃ m,N-q.length=m+1:=⟨N-q.length-1,by omega⟩
 have e:N-(q++[c]).length=m:=by rw [List.length_append,List.length_singleton];omega
 rw [e,hm,List.replicate_succ,List.set_append_right _ _ (by simp)]
 simp
theorem UX {q:List UInt8}{N:Nat}(x y:UInt8):(buf q N).take q.length++[QL x,QL y]++(buf q N).drop (q.length+2)=buf (q++[x,y]) N:=by
 unfold buf
 have e:N-(q++[x,y]).length=N-q.length-2:=by rw [List.length_append];simp;omega
 rw [e,List.take_left' (by simp),List.drop_append]
 simp
theorem TP (a b:List UInt8):Lx.quoted (a++b)=Lx.quoted a++Lx.quoted b:=by unfold Lx.quoted;rw [List.flatMap_append]
theorem Gj (l:List UInt8)(k:Nat):(Lx.quoted (l.take k)).length<=(Lx.quoted l).length:=by
 have:=congrArg (fun z=>(Lx.quoted z).length) (List.take_append_drop k l)
 simp only [TP,List.length_append] at this
 omega
theorem Tq {w:World}{B N:Nat}{q:List UInt8}(h:w.heap[B]?=some (.cells (buf q N).toArray 5 (0,0)))(hq:q.length<N):w.cell? ⟨B,q.length,none⟩=some (.int .u8 0)/\w.frozen? ⟨B,q.length,none⟩=false:=by
 constructor
 . unfold World.cell?
   simp only [h]
   unfold buf
   obtain⟨m,hm⟩:∃ m,N-q.length=m+1:=⟨N-q.length-1,by omega⟩
   rw [hm,List.replicate_succ]
   simp
 . simp only [World.frozen?,h];simp
theorem R1 {w:World}{B N:Nat}{q:List UInt8}(h:w.heap[B]?=some (.cells (buf q N).toArray 5 (0,0)))(hq:q.length=N):(convert 146 9 (.slice (some ⟨B,0,none⟩) N N)).run Tryz.prog w=.ok (.string ⟨⟨q⟩⟩) w:=by
 have hb:buf q N=q.map QL:=by unfold buf;rw [hq,Nat.sub_self];simp
 rw [hb] at h
 have e:q.map QL=(q.map fun c=>(c.toNat:Int)).map (Value.int .u8):=by rw [List.map_map];rfl
 have hload:=run_loadCells_list (P:=Tryz.prog) w ⟨B,0,none⟩ (q.map QL) (fun j v hj=>by
  rw [addr_add]
  unfold World.cell?
  simp only [h]
  simpa using hj)
 rw [List.length_map,hq,e] at hload
 rw [run_convert_bytes_string (P:=Tryz.prog) w 146 9 5 _ _ _ Tryz.underlying146 Tryz.underlying5 Tryz.underlying9,run_bytesToString (P:=Tryz.prog) w ⟨B,0,none⟩ N N _ hload]
 congr 2
 exact Wm (by rw [fold_push];simp)
theorem Q8:∀ l:List UInt8,(Lx.quoted l).length=l.length+(l.count 10+l.count 92+l.count 34)/\l.any isSp=decide (l.count 10+l.count 92+l.count 34≠0)
 | []=>⟨rfl,rfl⟩
 |c::l=>by
  obtain⟨h1,h2⟩:=Q8 l
  have e:Lx.quoted (c::l)=Hu c++Lx.quoted l:=rfl
  rw [e,List.length_append,h1,List.any_cons,h2,List.count_cons,List.count_cons,List.count_cons,List.length_cons]
  by_cases hc:isSp c=true
  . rw [Sn hc,hc]
    simp only [isSp,Bool.or_eq_true,beq_iff_eq] at hc
    rcases hc with (rfl|rfl)|rfl
    . refine⟨by simp;omega,by simp⟩
    . refine⟨by simp;omega,by simp⟩
    . refine⟨by simp;omega,by simp⟩
  . have hc2:isSp c=false:=by simpa using hc
    rw [K4 hc2,hc2]
    simp only [isSp,Bool.or_eq_false_iff,beq_eq_false_iff_ne] at hc2
    obtain⟨⟨n1,n2⟩,n3⟩:=hc2
    have m1:(c == 10)=false:=beq_eq_false_iff_ne.2 n3
    have m2:(c == 92)=false:=beq_eq_false_iff_ne.2 n2
    have m3:(c == 34)=false:=beq_eq_false_iff_ne.2 n1
    rw [m1,m2,m3]
    refine⟨by simp;omega,by simp⟩
def MM (m:Nat):UInt8:=if m=0 then 10 else if m=1 then 92 else 34
def IQ (l:List UInt8)(m:Nat):Nat:=(if 1<=m then l.count 10 else 0)+(if 2<=m then l.count 92 else 0)+(if 3<=m then l.count 34 else 0)
theorem TK (l:List UInt8){m:Nat}(h:m<3):IQ l (m+1)=IQ l m+l.count (MM m):=by
 match m,h with
 |0,_=>simp [IQ,MM]
 |1,_=>simp [IQ,MM]
 |2,_=>simp [IQ,MM]
theorem Zg {m:Nat}(h:m<3):isSp (MM m)=true:=by
 match m,h with
 |0,_=>rfl
 |1,_=>rfl
 |2,_=>rfl
theorem Y9 (X Y cap:Nat)(s:ByteArray)(hs:s.size<=1000000)(hT:Vh w X)(hY:w.cell? ⟨X,256,none⟩=some (.slice (some ⟨Y,0,none⟩) 3 cap))(hS:∀ m,m<3->w.cell? ⟨Y,m,none⟩=some (.string ⟨⟨[MM m]⟩⟩)) :
 Calls Tryz.prog 290 #[.pointer (some ⟨X,0,none⟩),.string s] w fun e w'=>e=.returned (.string ⟨⟨Lx.quoted (bl s)⟩⟩)/\Below w.heap.size w w':=by
 by_cases hbig:(24:Int)<=(s.size:Int)
 . have d1:decide ((24:Int)<=(s.size:Int))=true:=decide_eq_true hbig
   have hcl:∀ c:UInt8,(bl s).count c<=s.size:=fun c=>by rw [<- CF];exact List.count_le_length
   go_enter Tryz.func290,Tryz.ntmps290
   go_wp2
   go_loopw [5,6,32] (fun a b c wr=>∃ m:Nat,m<=3/\a=.int .i64 ((s.size+IQ (bl s) m:Nat):Int)/\b=.bool (decide (IQ (bl s) m≠0))/\c=.int .i64 (m:Int)/\Below w.heap.size w wr/\wr.heap.size=w.heap.size) (fun _ _ c _=>3-(intOf c).toNat)
   case atStart=>exact⟨0,Nat.zero_le _,by simp [IQ],by simp [IQ],rfl,Below.refl _ _,rfl⟩
   case round =>
    obtain⟨m,hm,rfl,rfl,rfl,hbz,hszz⟩:=hrel
    rename World=>wz
    have hX0:∀ a v,w.cell? a=some v->a.block<w.heap.size:=fun a v h=>World.block_lt_of_cell? _ _ h
    have hTz:=hT.below hbz hX0
    have hYz:=(hbz.cell (hX0 _ _ hY)).trans hY
    by_cases hlt:m<3
    . have hSm:=(hbz.cell (hX0 _ _ (hS m hlt))).trans (hS m hlt)
      have hss:=TK (bl s) hlt
      have hcm:=hcl (MM m)
      have hsm:IQ (bl s) m<=3000000:=by
       have c1:=hcl 10
       have c2:=hcl 92
       have c3:=hcl 34
       unfold IQ
       split<;>split<;>split<;>omega
      obtain⟨T,hT2⟩:∃ T,IQ (bl s) m=T:=⟨_,rfl⟩
      rw [hT2] at hss hsm ⊢
      obtain⟨C,hC⟩:∃ C,(bl s).count (MM m)=C:=⟨_,rfl⟩
      rw [hC] at hss hcm
      have hcall:=Tryz.strings_Count_one s (MM m) wz
      have hct:Lib.countByte s.data.toList (MM m)=C:=hC
      rw [hct] at hcall
      have Hcall:=Lib.hid hcall
      have HS:=Lib.hid hss
      have HT:=Lib.hid hTz
      have HBz:=Lib.hid hbz
      clear hcall hct hC hss hT2 hcl hT hTz hbz hY hX0 hS
      have hm0:(0:Int)<=(m:Int):=by omega
      have hm1:(m:Int)<3:=by omega
      go_wp2_with fail
      refine Hcall.out.mono ?_
      rintro e wq ⟨rfl,hwq⟩
      obtain rfl:wz=wq:=hwq.symm
      clear Hcall
      by_cases hC0:C=0
      . have b1:((C:Int) != 0)=false:=by rw [hC0];rfl
        go_wp2_with fail
        go_roundw
        case rel=>exact⟨m+1,hlt,by rw [HS.out,hC0];rfl,by rw [HS.out,hC0];simp,by go_num,HBz.out,hszz⟩
        case measure=>simp [intOf];omega
      . have b1:((C:Int) != 0)=true:=bne_iff_ne.2 (by omega)
        have hspm:=Zg hlt
        rcases HT.out (MM m) with⟨_,a,cp,x,y,h1,_,_,_⟩|⟨hn,_⟩
        . have hx0:(0:Int)<=((MM m).toNat:Int):=by omega
          have hx1:((MM m).toNat:Int)<256:=by have:=(MM m).toNat_lt;omega
          have hxx:(({ data:={ toList:=[MM m] } }:ByteArray)[0]'(show 0<1 from Nat.one_pos))=MM m:=rfl
          have hCT:C+T<=4000000:=by omega
          go_wp2_with fail
          refine EU [0,0,0,0,0,0,0,0,1,2,2,2,2,2] [0,1,2,3,4,5,6,7,8,9,10,11,12,13] (fun w'=>w'.cell? ⟨X,(MM m).toNat,none⟩=some (.slice (some a) 2 cp)) rfl (by kernel_rfl) rfl (by kernel_rfl) (fun _ d _ _ _ h=>by cases d<;>exact h) h1 ?_
          repeat ((first|(apply ME rfl rfl rfl;(intro w';go_simp;rfl))|(apply MD rfl rfl rfl;(rintro w' hs1;go_simp;rfl)));simp only [Act.put,List.getElem_toArray,List.getElem_cons_zero,List.getElem_cons_succ,List.setIfInBounds_toArray,List.set_cons_zero,List.set_cons_succ])
          refine MC 9 (by kernel_rfl) rfl ?_
          simp only [List.drop_succ_cons,List.drop_zero]
          go_wp2_with fail
          go_roundw
          case rel=>exact⟨m+1,hlt,by rw [HS.out];go_num,by rw [HS.out];simp;omega,by go_num,HBz.out.trans ((RF.one _).below _),hszz⟩
          case measure=>simp [intOf];omega
        . rw [hspm] at hn;cases hn
    . obtain rfl:m=3:=by omega
      have hcs:=Q8 (bl s)
      have hs3:IQ (bl s) 3=(bl s).count 10+(bl s).count 92+(bl s).count 34:=rfl
      rw [CF] at hcs
      rw [hs3,<- hcs.1,<- hcs.2]
      have hta:(bl s).take s.size=bl s:=List.take_of_length_le (by rw [CF];exact Nat.le_refl _)
      have HSz:=Lib.hid hszz
      clear hcs hs3 hT hY hszz
      obtain⟨A,hA⟩:∃ A,(bl s).any isSp=A:=⟨_,rfl⟩
      rw [hA]
      obtain⟨N,hN⟩:∃ N,(Lx.quoted (bl s)).length=N:=⟨_,rfl⟩
      rw [hN]
      cases A with
      |false =>
       have hq:=MS hA
       go_wp2
       go_ret
       first
        |exact⟨rfl,hbz⟩
        |(refine⟨?_,hbz⟩;rw [hq];rfl)
      |true =>
       have hNl:N<=2000000:=by have:=Ik (bl s);rw [CF] at this;omega
       obtain⟨i0,hi0,hz0,hz1,hz2⟩:=info_parts YQ
       have hmk0:=run_makeSlice (P:=Tryz.prog) wz 146 5 i0 (.int .u8 0) Tryz.underlying146 hi0 hz0 .i64 .i64 (N:Int) (N:Int) (by omega) (Int.le_refl _) (by rw [hz1];omega) (by rw [hz2];omega) (by omega)
       obtain⟨W1,hW1⟩:∃ W1,W1=wz.alloc (.cells (madeCells (Value.int .u8 0).cells ((N:Int).toNat*i0.size)) 5):=⟨_,rfl⟩
       rw [<- hW1,Int.toNat_natCast] at hmk0
       have hb1:Below wz.heap.size wz W1:=by rw [hW1];exact (Below.refl _ _).alloc (Nat.le_refl _) _
       have hB1:W1.heap[wz.heap.size]?=some (.cells (List.replicate N (Value.int .u8 0)).toArray 5 (0,0)):=by
        rw [hW1,Int.toNat_natCast,hz1,Nat.mul_one,<- Lr,Array.toArray_toList];exact heap_alloc_new _ _
       clear hW1
       have hX:∀ a v,wz.cell? a=some v->a.block<wz.heap.size:=fun a v h=>World.block_lt_of_cell? _ _ h
       go_wp2
       go_loopw [13,14] (fun vj vi wr=>∃ k:Nat,k<=s.size/\vi=.int .i64 (k:Int)/\vj=.int .i64 ((Lx.quoted ((bl s).take k)).length:Int)/\Below wz.heap.size wz wr/\wr.heap[wz.heap.size]?=some (.cells (buf (Lx.quoted ((bl s).take k)) N).toArray 5 (0,0))) (fun _ vi _=>s.size-(intOf vi).toNat)
       case atStart=>exact⟨0,Nat.zero_le _,rfl,rfl,hb1,by simpa [buf,Lx.quoted] using hB1⟩
       case round =>
        obtain⟨k,hk,rfl,rfl,hbw,hbuf⟩:=hrel
        by_cases hlt:k<s.size
        . have htn:=MK s k hlt
          have hqn:=K3 ((bl s).take k) s[k]
          rw [<- htn] at hqn
          have hc0:(0:Int)<=(s[k].toNat:Int):=by omega
          have hc1:(s[k].toNat:Int)<256:=by have:=s[k].toNat_lt;omega
          have hTk:=hTz.below hbw hX
          rcases hTk s[k] with⟨hsp,a,cp,x,y,h1,h4,h5,h6⟩|⟨hsp,h1⟩
          . rw [h4] at hqn
            obtain⟨q,hq⟩:∃ q,Lx.quoted ((bl s).take k)=q:=⟨_,rfl⟩
            rw [hq] at hbuf hqn ⊢
            have hqN:q.length+2<=N:=by
             have:=Gj (bl s) (k+1)
             rw [hqn,List.length_append] at this
             simp at this
             omega
            have hj0:(0:Int)<=(q.length:Int):=by omega
            have hj1:(q.length:Int)<=(N:Int):=by omega
            have hj2:¬ N=q.length:=by omega
            have hbl:(buf q N).length=N:=UZ (by omega)
            have hh0:wr.drew.heap[wz.heap.size]?=some (.cells (buf q N).toArray 5 (0,0)):=hbuf
            have hcp:=run_copy_row (P:=Tryz.prog) wr.drew 146 146 3 5 wz.heap.size q.length (N-q.length) (N-q.length) a 2 cp (buf q N).toArray 5 [QL x,QL y] Tryz.underlying146 (by kernel_rfl) hh0 (Nat.min_eq_left (show 2<=N-q.length by omega)).symm (fun j v hj=>by
             match j,hj with
             |0,hj=>cases hj;exact h5
             |1,hj=>cases hj;exact h6) (by rw [List.size_toArray,hbl];exact hqN) (by simp [Value.oneCell'])
            obtain⟨W2,hW2⟩:∃ W2,W2=wr.drew.setRow wz.heap.size ((buf q N).toArray.toList.take q.length++[QL x,QL y]++(buf q N).toArray.toList.drop (q.length + [QL x,QL y].length)).toArray:=⟨_,rfl⟩
            rw [<- hW2] at hcp
            have hb2:Below wz.heap.size wz W2:=by rw [hW2];exact below_setRow (hbw.trans ((RF.one _).below _)) (Nat.le_refl _) _
            have hbuf2:W2.heap[wz.heap.size]?=some (.cells (buf (q++[x,y]) N).toArray 5 (0,0)):=by
             rw [hW2,L7 hh0,<- UX x y];rfl
            clear hW2
            have HB:=Lib.hid hbuf2
            have HN:=Lib.hid hqn
            have HW:=Lib.hid hb2
            clear hbuf hbuf2 hqn hbw hb2 htn hTz hTk h4 h5 h6 hbl hh0
            go_wp2
            refine EU [0,0,0,0,0,0,0,0,0,1,2,2,2] [0,1,2,3,4,5,6,7,8,9,10,11,12] (fun wz'=>wz'.cell? ⟨X,s[k].toNat,none⟩=some (.slice (some a) 2 cp)) rfl (by kernel_rfl) rfl (by kernel_rfl) (fun _ d _ _ _ h=>by cases d<;>exact h) h1 ?_
            repeat ((first|(apply ME rfl rfl rfl;(intro wz';go_simp;rfl))|(apply MD rfl rfl rfl;(rintro wz' hs1;go_simp;rfl)));simp only [Act.put,List.getElem_toArray,List.getElem_cons_zero,List.getElem_cons_succ,List.setIfInBounds_toArray,List.set_cons_zero,List.set_cons_succ])
            refine MC 10 (by kernel_rfl) rfl ?_
            simp only [List.drop_succ_cons,List.drop_zero]
            go_wp2
            go_roundw
            case rel =>
             refine⟨k+1,hlt,by go_num,by rw [HN.out,List.length_append];go_num,HW.out,?_⟩
             rw [HN.out];exact HB.out
            case measure=>simp [intOf];omega
          . have hq1:=K4 hsp
            rw [hq1] at hqn
            obtain⟨q,hq⟩:∃ q,Lx.quoted ((bl s).take k)=q:=⟨_,rfl⟩
            rw [hq] at hbuf hqn ⊢
            have hqN:q.length+1<=N:=by
             have:=Gj (bl s) (k+1)
             rw [hqn,List.length_append,List.length_singleton] at this
             omega
            obtain⟨hcj,hfz⟩:=Tq hbuf (by omega)
            have hj0:(0:Int)<=(q.length:Int):=by omega
            have hj1:(q.length:Int)<(N:Int):=by omega
            have HB:=Lib.hid hbuf
            have HN:=Lib.hid hqn
            have HW:=Lib.hid hbw
            clear hbuf hqn hbw htn hTz hTk hq1
            go_wp2
            go_roundw
            case rel =>
             refine⟨k+1,hlt,by go_num,by rw [HN.out,List.length_append,List.length_singleton];go_num,HW.out.setCell (Nat.le_refl _) _,?_⟩
             rw [HN.out,heap_setCell_same _ _ _ _ _ _ HB.out,List.setIfInBounds_toArray,UY s[k] (by omega)]
            case measure=>simp [intOf];omega
        . obtain rfl:k=s.size:=by omega
          rw [hta] at hbuf ⊢
          have hcv:=R1 hbuf hN
          go_wp2
          go_ret
          exact⟨rfl,hbz.trans (by rw [<- HSz.out];exact hbw)⟩
 have d1:decide ((24:Int)<=(s.size:Int))=false:=decide_eq_false hbig
 go_enter Tryz.func290,Tryz.ntmps290
 go_wp2
 go_loop [5,6,10] (fun a b c=>∃ k:Nat,k<=s.size/\a=.int .i64 (((Lx.quoted ((bl s).take k)).length+(s.size-k):Nat):Int)/\b=.bool (((bl s).take k).any isSp)/\c=.int .i64 (k:Int)) (fun _ _ c=>s.size-(intOf c).toNat)
 case atStart=>exact⟨0,Nat.zero_le _,by simp [Lx.quoted],by simp,rfl⟩
 case round =>
  obtain⟨k,hk,rfl,rfl,rfl⟩:=hrel
  have hlq:=Ik ((bl s).take k)
  rw [List.length_take,CF] at hlq
  by_cases hlt:k<s.size
  . have htn:=MK s k hlt
    have hqn:=K3 ((bl s).take k) s[k]
    have hany:((bl s).take (k+1)).any isSp=(((bl s).take k).any isSp||isSp s[k]):=by rw [htn,List.any_append];simp
    rw [<- htn] at hqn
    have hql:=congrArg List.length hqn
    rw [List.length_append] at hql
    have hc0:(0:Int)<=(s[k].toNat:Int):=by omega
    have hc1:(s[k].toNat:Int)<256:=by have:=s[k].toNat_lt;omega
    rcases hT s[k] with⟨hsp,a,cp,x,y,h1,h4,h5,h6⟩|⟨hsp,h1⟩
    . have h2l:=Sn hsp
      rw [hsp,Bool.or_true] at hany
      have HQ:=Lib.hid hql
      have HA:=Lib.hid hany
      clear hqn h4 h5 h6 htn hql hany hT
      go_wp2
      go_round
      case rel=>exact⟨k+1,hlt,by have:=HQ.out;go_num,by rw [HA.out],by go_num⟩
      case measure=>simp [intOf];omega
    . have h2l:=congrArg List.length (K4 hsp)
      rw [hsp,Bool.or_false] at hany
      have HQ:=Lib.hid hql
      have HA:=Lib.hid hany
      clear hqn htn hql hany hT
      go_wp2
      go_round
      case rel=>exact⟨k+1,hlt,by have:=HQ.out;simp at h2l;go_num,by rw [HA.out],by go_num⟩
      case measure=>simp [intOf];omega
  . obtain rfl:k=s.size:=by omega
    have hta:(bl s).take s.size=bl s:=List.take_of_length_le (by rw [CF];exact Nat.le_refl _)
    rw [hta,Nat.sub_self,Nat.add_zero]
    obtain⟨A,hA⟩:∃ A,(bl s).any isSp=A:=⟨_,rfl⟩
    rw [hA]
    obtain⟨N,hN⟩:∃ N,(Lx.quoted (bl s)).length=N:=⟨_,rfl⟩
    rw [hN]
    cases A with
    |false =>
     have hq:=MS hA
     go_wp2
     go_ret
     exact⟨rfl,Below.refl _ _⟩
    |true =>
     have hNl:N<=2000000:=by have:=Ik (bl s);rw [CF] at this;omega
     obtain⟨i0,hi0,hz0,hz1,hz2⟩:=info_parts YQ
     have hmk0:=run_makeSlice (P:=Tryz.prog) w 146 5 i0 (.int .u8 0) Tryz.underlying146 hi0 hz0 .i64 .i64 (N:Int) (N:Int) (by omega) (Int.le_refl _) (by rw [hz1];omega) (by rw [hz2];omega) (by omega)
     obtain⟨W1,hW1⟩:∃ W1,W1=w.alloc (.cells (madeCells (Value.int .u8 0).cells ((N:Int).toNat*i0.size)) 5):=⟨_,rfl⟩
     rw [<- hW1,Int.toNat_natCast] at hmk0
     have hb1:Below w.heap.size w W1:=by rw [hW1];exact (Below.refl _ _).alloc (Nat.le_refl _) _
     have hB1:W1.heap[w.heap.size]?=some (.cells (List.replicate N (Value.int .u8 0)).toArray 5 (0,0)):=by
      rw [hW1,Int.toNat_natCast,hz1,Nat.mul_one,<- Lr,Array.toArray_toList];exact heap_alloc_new _ _
     clear hW1
     have hX:∀ a v,w.cell? a=some v->a.block<w.heap.size:=fun a v h=>World.block_lt_of_cell? _ _ h
     go_wp2
     go_loopw [13,14] (fun vj vi wr=>∃ k:Nat,k<=s.size/\vi=.int .i64 (k:Int)/\vj=.int .i64 ((Lx.quoted ((bl s).take k)).length:Int)/\Below w.heap.size w wr/\wr.heap[w.heap.size]?=some (.cells (buf (Lx.quoted ((bl s).take k)) N).toArray 5 (0,0))) (fun _ vi _=>s.size-(intOf vi).toNat)
     case atStart=>exact⟨0,Nat.zero_le _,rfl,rfl,hb1,by simpa [buf,Lx.quoted] using hB1⟩
     case round =>
      obtain⟨k,hk,rfl,rfl,hbw,hbuf⟩:=hrel
      by_cases hlt:k<s.size
      . have htn:=MK s k hlt
        have hqn:=K3 ((bl s).take k) s[k]
        rw [<- htn] at hqn
        have hc0:(0:Int)<=(s[k].toNat:Int):=by omega
        have hc1:(s[k].toNat:Int)<256:=by have:=s[k].toNat_lt;omega
        have hTk:=hT.below hbw hX
        rcases hTk s[k] with⟨hsp,a,cp,x,y,h1,h4,h5,h6⟩|⟨hsp,h1⟩
        . rw [h4] at hqn
          obtain⟨q,hq⟩:∃ q,Lx.quoted ((bl s).take k)=q:=⟨_,rfl⟩
          rw [hq] at hbuf hqn ⊢
          have hqN:q.length+2<=N:=by
           have:=Gj (bl s) (k+1)
           rw [hqn,List.length_append] at this
           simp at this
           omega
          have hj0:(0:Int)<=(q.length:Int):=by omega
          have hj1:(q.length:Int)<=(N:Int):=by omega
          have hj2:¬ N=q.length:=by omega
          have hbl:(buf q N).length=N:=UZ (by omega)
          have hh0:wr.drew.heap[w.heap.size]?=some (.cells (buf q N).toArray 5 (0,0)):=hbuf
          have hcp:=run_copy_row (P:=Tryz.prog) wr.drew 146 146 3 5 w.heap.size q.length (N-q.length) (N-q.length) a 2 cp (buf q N).toArray 5 [QL x,QL y] Tryz.underlying146 (by kernel_rfl) hh0 (Nat.min_eq_left (show 2<=N-q.length by omega)).symm (fun j v hj=>by
           match j,hj with
           |0,hj=>cases hj;exact h5
           |1,hj=>cases hj;exact h6) (by rw [List.size_toArray,hbl];exact hqN) (by simp [Value.oneCell'])
          obtain⟨W2,hW2⟩:∃ W2,W2=wr.drew.setRow w.heap.size ((buf q N).toArray.toList.take q.length++[QL x,QL y]++(buf q N).toArray.toList.drop (q.length + [QL x,QL y].length)).toArray:=⟨_,rfl⟩
          rw [<- hW2] at hcp
          have hb2:Below w.heap.size w W2:=by rw [hW2];exact below_setRow (hbw.trans ((RF.one _).below _)) (Nat.le_refl _) _
          have hbuf2:W2.heap[w.heap.size]?=some (.cells (buf (q++[x,y]) N).toArray 5 (0,0)):=by
           rw [hW2,L7 hh0,<- UX x y];rfl
          clear hW2
          have HB:=Lib.hid hbuf2
          have HN:=Lib.hid hqn
          have HW:=Lib.hid hb2
          clear hbuf hbuf2 hqn hbw hb2 htn hT hTk h4 h5 h6 hbl hh0
          go_wp2
          refine EU [0,0,0,0,0,0,0,0,0,1,2,2,2] [0,1,2,3,4,5,6,7,8,9,10,11,12] (fun w'=>w'.cell? ⟨X,s[k].toNat,none⟩=some (.slice (some a) 2 cp)) rfl (by kernel_rfl) rfl (by kernel_rfl) (fun _ d _ _ _ h=>by cases d<;>exact h) h1 ?_
          repeat ((first|(apply ME rfl rfl rfl;(intro w';go_simp;rfl))|(apply MD rfl rfl rfl;(rintro w' hs1;go_simp;rfl)));simp only [Act.put,List.getElem_toArray,List.getElem_cons_zero,List.getElem_cons_succ,List.setIfInBounds_toArray,List.set_cons_zero,List.set_cons_succ])
          refine MC 10 (by kernel_rfl) rfl ?_
          simp only [List.drop_succ_cons,List.drop_zero]
          go_wp2
          go_roundw
          case rel =>
           refine⟨k+1,hlt,by go_num,by rw [HN.out,List.length_append];go_num,HW.out,?_⟩
           rw [HN.out];exact HB.out
          case measure=>simp [intOf];omega
        . have hq1:=K4 hsp
          rw [hq1] at hqn
          obtain⟨q,hq⟩:∃ q,Lx.quoted ((bl s).take k)=q:=⟨_,rfl⟩
          rw [hq] at hbuf hqn ⊢
          have hqN:q.length+1<=N:=by
           have:=Gj (bl s) (k+1)
           rw [hqn,List.length_append,List.length_singleton] at this
           omega
          obtain⟨hcj,hfz⟩:=Tq hbuf (by omega)
          have hj0:(0:Int)<=(q.length:Int):=by omega
          have hj1:(q.length:Int)<(N:Int):=by omega
          have HB:=Lib.hid hbuf
          have HN:=Lib.hid hqn
          have HW:=Lib.hid hbw
          clear hbuf hqn hbw htn hT hTk hq1
          go_wp2
          go_roundw
          case rel =>
           refine⟨k+1,hlt,by go_num,by rw [HN.out,List.length_append,List.length_singleton];go_num,HW.out.setCell (Nat.le_refl _) _,?_⟩
           rw [HN.out,heap_setCell_same _ _ _ _ _ _ HB.out,List.setIfInBounds_toArray,UY s[k] (by omega)]
          case measure=>simp [intOf];omega
      . obtain rfl:k=s.size:=by omega
        rw [hta] at hbuf ⊢
        have hcv:=R1 hbuf hN
        go_wp2
        go_ret
        exact⟨rfl,hbw⟩
end Go.Proofs.YtkcfmlfkfagejaaGreatDoor
