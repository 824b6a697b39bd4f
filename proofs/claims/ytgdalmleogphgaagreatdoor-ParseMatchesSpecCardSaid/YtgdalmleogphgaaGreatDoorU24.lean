/-
  The walks of the reference's has and Sign. Bytes made a string; a struct stored whole; no program. The walk of the reference's text. The walk of the reference's token.
-/
import Derived.Laws.BytesString
import Derived.Laws.Tables
import Derived.Laws.Rows
import Derived.Test.YtgdalmleogphgaaGreatDoorU20
namespace Go.Proofs.YtgdalmleogphgaaGreatDoor
open Go.RowKit Go.Q Go.Lx
variable {w:World} {S:Reg} {A:Option Addr} {cap:Nat}
def strE:Enc ByteArray where
 size:=1
 rep:=fun _ _ cs x=>cs=[.string x]
 len:=fun h=>by rw [h];rfl
 one:=fun h u hu=>by rw [h] at hu;simp at hu;rw [hu];rfl
 stable:=fun _ _ h=>h
abbrev Strs:=Sl strE
theorem strs_get {xs:List ByteArray}(h:Strs S w A cap xs){i:Nat}(hi:i<xs.length):∃ b o,A=some ⟨b,o,none⟩/\S b/\w.cell? ⟨b,o+i,none⟩=some (.string xs[i]):=by
 obtain⟨b,o,cs,hA,hb,hr,hc⟩:=h.get hi
 obtain rfl:cs=[.string xs[i]]:=hr
 have:=hc 0 (by simp)
 simp only [strE,Nat.mul_one,Nat.add_zero,List.getElem_cons_zero] at this
 exact⟨b,o,hA,hb,this⟩
theorem take_mem_succ {α β:Type}(f:α->β){xs:List α}{x:β}{i:Nat}(hi:i<xs.length)(h:x∉(xs.take i).map f)(h2:¬ f xs[i]=x):x∉(xs.take (i+1)).map f:=by
 rw [List.take_add_one,List.getElem?_eq_getElem hi]
 simp only [Option.toList_some,List.map_append,List.map_cons,List.map_nil,List.mem_append,List.mem_singleton,not_or]
 exact⟨h,fun e=>h2 e.symm⟩
theorem str_beq (a b:ByteArray):(a.toList == b.toList)=decide (bl a=bl b):=by
 rw [Lib.toList_data,Lib.toList_data,Bool.eq_iff_iff];simp
theorem refHas {xs:List ByteArray}(s:ByteArray)(hx:Strs S w A cap xs):Calls Tryz.prog 103 #[.slice A xs.length cap,.string s] w fun e w'=>e=.returned (.bool (decide (bl s∈xs.map bl)))/\w'=w:=by
 have hl:=hx.len
 have hl2:=hx.1
 go_enter Tryz.func103,Tryz.ntmps103
 go_wp2
 go_loop [5] (fun k=>∃ i:Nat,i<=xs.length/\k=.int .i64 i/\Hid (bl s∉(xs.take i).map bl)) (fun k=>xs.length-(intOf k).toNat)
 case atStart=>exact⟨0,by omega,rfl,by show _∉_;simp⟩
 case round =>
  obtain⟨i,hi,rfl,hd⟩:=hrel
  by_cases hlt:i<xs.length
  . obtain⟨b,o,rfl,hb,hc⟩:=strs_get hx hlt
    by_cases he:bl xs[i]=bl s
    . have hf:Hid (bl s∈xs.map bl):=by show _∈_;rw [<- he];exact List.mem_map_of_mem (List.getElem_mem hlt)
      have hbq:(xs[i].toList == s.toList)=true:=by rw [str_beq];simpa using he
      clear hx he
      go_wp2
      go_ret
      exact⟨ret_bool (by simpa using hf.out),rfl⟩
    . have hd2:Hid (bl s∉(xs.take (i+1)).map bl):=take_mem_succ bl hlt hd.out he
      have hbq:(xs[i].toList == s.toList)=false:=by rw [str_beq];simpa using he
      clear hx he hd
      go_wp2
      go_round
      case rel=>exact⟨i+1,by omega,by go_num,hd2⟩
      case measure=>simp [intOf];omega
  . obtain rfl:i=xs.length:=by omega
    have hf:Hid (bl s∉xs.map bl):=by have:=hd.out;rw [List.take_length] at this;exact this
    clear hx hd
    go_wp2
    go_ret
    exact⟨ret_bool (by simpa using hf.out),rfl⟩
def sgn (l:List UInt8):List UInt8:=match sign l with|.ok _ s _ _=>s|.bad _=>[]
def strs (l:List (List UInt8)):List ByteArray:=l.map fun x=>⟨x.toArray⟩
theorem strs_bl (l:List (List UInt8)):(strs l).map bl=l:=by
 unfold strs;rw [List.map_map];exact List.map_id'' (fun x=>by simp [bl]) l
theorem litStrs (w:World)(xs:List ByteArray)(hx:xs.length<=1000)(t:TypeId):Strs (fun k=>k<w.heap.size+1) (w.alloc (.cells (xs.map Value.string).toArray t)) (some ⟨w.heap.size,0,none⟩) xs.length xs:=by
 refine⟨Nat.le_refl _,by omega,(fun h=>by cases h),fun a ha _=>?_⟩
 cases ha
 refine⟨w.heap.size,0,rfl,by simp,fun i hi=>?_⟩
 have htop:(w.alloc (.cells (xs.map Value.string).toArray t)).heap[w.heap.size]?=some (.cells (xs.map Value.string).toArray t (0,0)):=heap_alloc_new w _
 obtain⟨h1,_⟩:=cells_at htop i (by simpa using hi)
 refine⟨[.string xs[i]],rfl,fun j hj=>?_⟩
 obtain rfl:j=0:=by simp at hj;omega
 simp [strE]
theorem sgn_two {l:List UInt8}(h:l.take 2∈long):sgn l=l.take 2:=by unfold sgn sign;rw [if_pos h]
theorem sgn_one {c:UInt8}{r:List UInt8}(h:(c::r).take 2∉long)(hc:c∈short):sgn (c::r)=[c]:=by unfold sgn sign;rw [if_neg h];simp only;rw [if_pos hc]
theorem sgn_none {c:UInt8}{r:List UInt8}(h:(c::r).take 2∉long)(hc:c∉short):sgn (c::r)=[]:=by unfold sgn sign;rw [if_neg h];simp only;rw [if_neg hc]
theorem long_short {l:List UInt8}(h:l.length<2):l.take 2∉long:=fun h2=>by have:=long_len h2;rw [List.length_take] at this;omega
def w2 (w:World):World:=(w.alloc (.cells ((strs long).map Value.string).toArray 9)).alloc (.cells ((strs (short.map fun c=>[c])).map Value.string).toArray 9)
set_option maxHeartbeats 2000000 in
theorem refSign (s:ByteArray)(hs:s.size<=1000000):Calls Tryz.prog 83 #[.string s] w fun e w'=>(∃ t,e=.returned (.string t)/\bl t=sgn (bl s))/\Below w.heap.size w w':=by
 have hb:Below w.heap.size w (w2 w):=((Below.refl _ _).alloc (Nat.le_refl _) _).alloc (by simp) _
 have h1:Hid (Calls Tryz.prog 103 #[.slice (some ⟨w.heap.size,0,none⟩) 9 9,.string (s.extract 0 2)] (w2 w) fun e w'=>e=.returned (.bool (decide ((bl s).take 2∈long)))/\w'=w2 w):=by
  have a:=litStrs w (strs long) (by decide) 9
  have a2:=Sl.below' (B:=w.heap.size+1) (w':=w2 w) a ((Below.refl (w.heap.size+1) _).alloc (by simp) _) (fun _ h=>h)
  have:=refHas (s.extract 0 2) a2
  rw [strs_bl,bl_ext] at this
  exact this
 have h2:Hid (Calls Tryz.prog 103 #[.slice (some ⟨w.heap.size+1,0,none⟩) 25 25,.string (s.extract 0 1)] (w2 w) fun e w'=>e=.returned (.bool (decide ((bl s).take 1∈short.map fun c=>[c])))/\w'=w2 w):=by
  have a:=litStrs (w.alloc (.cells ((strs long).map Value.string).toArray 9)) (strs (short.map fun c=>[c])) (by decide) 9
  have hsz:(w.alloc (.cells ((strs long).map Value.string).toArray 9)).heap.size=w.heap.size+1:=by simp
  rw [hsz] at a
  have:=refHas (s.extract 0 1) a
  rw [strs_bl,bl_ext] at this
  exact this
 have hB:=Lib.hid hb
 clear hb
 have hln:=bl_len s
 by_cases hs2:2<=s.size
 . by_cases hl:(bl s).take 2∈long
   . have d1:Hid (decide ((bl s).take 2∈long)=true):=decide_eq_true hl
     have hr:Hid (bl (s.extract 0 2)=sgn (bl s)):=by show _=_;rw [sgn_two hl,bl_ext];rfl
     clear hl hln h2
     go_enter Tryz.func83,Tryz.ntmps83
     go_wp2_with fail
     have hcall:=h1.out
     rw [d1.out] at hcall
     have Hcall:=Lib.hid hcall
     clear hcall h1
     refine Hcall.out.mono ?_
     rintro e w' ⟨rfl,rfl⟩
     go_wp2_with fail
     go_ret
     exact⟨⟨_,rfl,hr.out⟩,hB.out⟩
   . have d1:Hid (decide ((bl s).take 2∈long)=false):=decide_eq_false hl
     obtain⟨c,r,hc⟩:∃ c r,bl s=c::r:=by cases h:bl s with|nil=>rw [h] at hln;simp at hln;omega|cons c r=>exact⟨c,r,rfl⟩
     have ht1:(bl s).take 1=[c]:=by rw [hc];rfl
     by_cases hsh:c∈short
     . have d2:Hid (decide ((bl s).take 1∈short.map fun c=>[c])=true):=by show _=_;rw [ht1];simpa using hsh
       have hr:Hid (bl (s.extract 0 1)=sgn (bl s)):=by show _=_;rw [bl_ext,hc,sgn_one (by rw [<- hc];exact hl) hsh];rfl
       clear hl hln hc ht1
       go_enter Tryz.func83,Tryz.ntmps83
       go_wp2_with fail
       have hcall:=h1.out
       rw [d1.out] at hcall
       have Hcall:=Lib.hid hcall
       clear hcall h1
       refine Hcall.out.mono ?_
       rintro e w' ⟨rfl,rfl⟩
       go_wp2_with fail
       have hcall:=h2.out
       rw [d2.out] at hcall
       have Hcall:=Lib.hid hcall
       clear hcall h2
       refine Hcall.out.mono ?_
       rintro e w' ⟨rfl,rfl⟩
       go_wp2_with fail
       go_ret
       exact⟨⟨_,rfl,hr.out⟩,hB.out⟩
     . have d2:Hid (decide ((bl s).take 1∈short.map fun c=>[c])=false):=by show _=_;rw [ht1];simpa using hsh
       have hr:Hid ([]=sgn (bl s)):=by show _=_;rw [hc,sgn_none (by rw [<- hc];exact hl) hsh]
       clear hl hln hc ht1
       go_enter Tryz.func83,Tryz.ntmps83
       go_wp2_with fail
       have hcall:=h1.out
       rw [d1.out] at hcall
       have Hcall:=Lib.hid hcall
       clear hcall h1
       refine Hcall.out.mono ?_
       rintro e w' ⟨rfl,rfl⟩
       go_wp2_with fail
       have hcall:=h2.out
       rw [d2.out] at hcall
       have Hcall:=Lib.hid hcall
       clear hcall h2
       refine Hcall.out.mono ?_
       rintro e w' ⟨rfl,rfl⟩
       go_wp2_with fail
       go_ret
       exact⟨⟨_,rfl,hr.out⟩,hB.out⟩
 . have hl:(bl s).take 2∉long:=long_short (by rw [hln];omega)
   by_cases hs1:1<=s.size
   . obtain⟨c,r,hc⟩:∃ c r,bl s=c::r:=by cases h:bl s with|nil=>rw [h] at hln;simp at hln;omega|cons c r=>exact⟨c,r,rfl⟩
     have ht1:(bl s).take 1=[c]:=by rw [hc];rfl
     by_cases hsh:c∈short
     . have d2:Hid (decide ((bl s).take 1∈short.map fun c=>[c])=true):=by show _=_;rw [ht1];simpa using hsh
       have hr:Hid (bl (s.extract 0 1)=sgn (bl s)):=by show _=_;rw [bl_ext,hc,sgn_one (by rw [<- hc];exact hl) hsh];rfl
       clear hl hln hc ht1 h1
       go_enter Tryz.func83,Tryz.ntmps83
       go_wp2_with fail
       have hcall:=h2.out
       rw [d2.out] at hcall
       have Hcall:=Lib.hid hcall
       clear hcall h2
       refine Hcall.out.mono ?_
       rintro e w' ⟨rfl,rfl⟩
       go_wp2_with fail
       go_ret
       exact⟨⟨_,rfl,hr.out⟩,hB.out⟩
     . have d2:Hid (decide ((bl s).take 1∈short.map fun c=>[c])=false):=by show _=_;rw [ht1];simpa using hsh
       have hr:Hid ([]=sgn (bl s)):=by show _=_;rw [hc,sgn_none (by rw [<- hc];exact hl) hsh]
       clear hl hln hc ht1 h1
       go_enter Tryz.func83,Tryz.ntmps83
       go_wp2_with fail
       have hcall:=h2.out
       rw [d2.out] at hcall
       have Hcall:=Lib.hid hcall
       clear hcall h2
       refine Hcall.out.mono ?_
       rintro e w' ⟨rfl,rfl⟩
       go_wp2_with fail
       go_ret
       exact⟨⟨_,rfl,hr.out⟩,hB.out⟩
   . have hr:Hid ([]=sgn (bl s)):=by
      show _=_
      have:bl s=[]:=List.eq_nil_of_length_eq_zero (by rw [hln];omega)
      rw [this];decide
     clear hl hln h1 h2
     go_enter Tryz.func83,Tryz.ntmps83
     go_wp2_with fail
     go_ret
     exact⟨⟨_,rfl,hr.out⟩,hB.out⟩
end Go.Proofs.YtgdalmleogphgaaGreatDoor
namespace Go.Q
open Go Go.RowKit
section
variable {S:Reg} {w w':World} {A:Option Addr} {cap:Nat} {P:Program}
theorem bytes_ext {a b:ByteArray}(h:a.data.toList=b.data.toList):a=b:=by
 obtain⟨⟨l⟩⟩:=a
 obtain⟨⟨m⟩⟩:=b
 simp only at h
 subst h;rfl
theorem fold_push:∀ (xs:List UInt8) (s:ByteArray),((xs.map fun x=>(x.toNat:Int)).foldl (fun r n=>r.push (UInt8.ofNat n.toNat)) s).data.toList=s.data.toList++xs
 | [],s=>by simp
 |x::xs,s=>by
  rw [List.map_cons,List.foldl_cons,fold_push xs]
  simp [ByteArray.push]
theorem run_bytes_str {xs:List UInt8}(h:Bytes S w A cap xs):(Conv.bytesToString (.slice A xs.length cap)).run P w=.ok (.string ⟨xs.toArray⟩) w:=by
 cases A with
 |none =>
  have h1:=h.1
  have h2:=h.2.2.1 rfl
  obtain rfl:xs=[]:=List.eq_nil_of_length_eq_zero (by omega)
  rfl
 |some a =>
  obtain⟨us,hl,hr,hc⟩:=h.cells rfl rfl
  have hus:us=(xs.map fun x=>(x.toNat:Int)).map (Value.int .u8):=by
   refine List.ext_getElem (by simpa using hl) fun i h1 h2=>?_
   have:=hr i h1 (by omega)
   simp only [u8E,List.cons.injEq,and_true] at this
   simpa using this
  have hrun:(loadCells a xs.length).run P w=.ok ((xs.map fun x=>(x.toNat:Int)).map (Value.int .u8)).toArray w:=by
   rw [<- hl,<- hus];exact run_loadCells_list w a us hc
  rw [run_bytesToString w a xs.length cap _ hrun]
  congr 2
  exact bytes_ext (by rw [fold_push];rfl)
theorem wpList_bytes_str {ops:Array Oper}{rest:List Oper}{o:Oper}{a:Act}{Q:Exit->Act->World->Prop}{n:Nat}(hgd:o.guard=none)(src dst e:TypeId)(x:Operand)(ho:o.op=.convert src dst x)(hx:a.eval x=.slice A n cap)
 (hs:P.underlying src=some (.slice e)) (he:P.underlying e=some (.int .u8)) (hd:P.underlying dst=some .string) {xs:List UInt8} (hn:xs.length=n) (h:Bytes S w A cap xs)
 (hk:wpList P ops Q rest (a.put o.dst (.string ⟨xs.toArray⟩)) w):wpList P ops Q (o::rest) a w:=by
 subst hn
 refine wpList_plain hgd fun K hK=>?_
 unfold Oper.wp execOp
 simp only [ho,hx,Sem.run_bind,run_convert_bytes_string (P:=P) w src dst e A xs.length cap hs he hd,run_bytes_str (P:=P) h,Result.andThen_ok,Sem.run_pure]
 exact hK _ _ hk
theorem setRow_new {w:World}{g:Nat}{t:TypeId}{old cs:Array Value}(hg:w.heap[g]?=some (.cells old t (0,0))):(w.setRow g cs).heap[g]?=some (.cells cs t (0,0)):=setRow_heap w g old cs t _ hg
theorem below_setRow {B:Nat}{w0 w:World}{g:Nat}{cs:Array Value}(h:Below B w0 w)(hg:B<=g):Below B w0 (w.setRow g cs) :=
 h.trans ⟨rfl,rfl,rfl,by simp,fun k hk=>setRow_other w g k _ (by omega)⟩
end
end Go.Q
namespace Go.Proofs.YtgdalmleogphgaaGreatDoor
open Go.RowKit Go.Q Go.Lx
variable {w:World} {S:Reg} {A:Option Addr} {cap:Nat}
def zero55:Array Value:=#[.int .i64 0,.int .i64 0,.string ⟨#[]⟩,.int .i64 0,.int .i64 0,.int .i64 0]
theorem z55 {w:World}{g:Nat}(h:w.heap[g]?=some (.cells zero55 105 (0,0))):(w.cell? ⟨g,0,none⟩=some (.int .i64 0)/\w.cell? ⟨g,1,none⟩=some (.int .i64 0)/\w.cell? ⟨g,2,none⟩=some (.string ⟨#[]⟩)/\w.cell? ⟨g,3,none⟩=some (.int .i64 0)/\w.cell? ⟨g,4,none⟩=some (.int .i64 0)/\w.cell? ⟨g,5,none⟩=some (.int .i64 0)) /\
 (w.frozen? ⟨g,0,none⟩=false/\w.frozen? ⟨g,1,none⟩=false/\w.frozen? ⟨g,2,none⟩=false/\w.frozen? ⟨g,3,none⟩=false/\w.frozen? ⟨g,4,none⟩=false/\w.frozen? ⟨g,5,none⟩=false) :=
 ⟨⟨(cells_at h 0 (by decide)).1,(cells_at h 1 (by decide)).1,(cells_at h 2 (by decide)).1,(cells_at h 3 (by decide)).1,(cells_at h 4 (by decide)).1,(cells_at h 5 (by decide)).1⟩,
  (cells_at h 0 (by decide)).2,(cells_at h 1 (by decide)).2,(cells_at h 2 (by decide)).2,(cells_at h 3 (by decide)).2,(cells_at h 4 (by decide)).2,(cells_at h 5 (by decide)).2⟩
theorem put55 {w:World}{g:Nat}(h:w.heap[g]?=some (.cells zero55 105 (0,0)))(a b c d e f:Value) :
 ((((((w.setCell ⟨g,0,none⟩ a).setCell ⟨g,1,none⟩ b).setCell ⟨g,2,none⟩ c).setCell ⟨g,3,none⟩ d).setCell ⟨g,4,none⟩ e).setCell ⟨g,5,none⟩ f).heap[g]?=some (.cells #[a,b,c,d,e,f] 105 (0,0)):=by
 have h0:=Go.Q.heap_setCell_same w g 0 a _ _ h
 have h1:=Go.Q.heap_setCell_same _ g 1 b _ _ h0
 have h2:=Go.Q.heap_setCell_same _ g 2 c _ _ h1
 have h3:=Go.Q.heap_setCell_same _ g 3 d _ _ h2
 have h4:=Go.Q.heap_setCell_same _ g 4 e _ _ h3
 have h5:=Go.Q.heap_setCell_same _ g 5 f _ _ h4
 rw [h5];rfl
theorem put55_below {B:Nat}{w0 w:World}{g:Nat}(h:Below B w0 w)(hg:B<=g)(a b c d e f:Value) :
 Below B w0 ((((((w.setCell ⟨g,0,none⟩ a).setCell ⟨g,1,none⟩ b).setCell ⟨g,2,none⟩ c).setCell ⟨g,3,none⟩ d).setCell ⟨g,4,none⟩ e).setCell ⟨g,5,none⟩ f) :=
 (((((h.setCell (p:=⟨g,0,none⟩) hg a).setCell (p:=⟨g,1,none⟩) hg b).setCell (p:=⟨g,2,none⟩) hg c).setCell (p:=⟨g,3,none⟩) hg d).setCell (p:=⟨g,4,none⟩) hg e).setCell (p:=⟨g,5,none⟩) hg f
theorem lt_nat (c d:UInt8)(h:(c.toNat:Int)<(d.toNat:Int)):c<d:=UInt8.lt_iff_toNat_lt.2 (by omega)
theorem nat_lt (c d:UInt8)(h:c<d):(c.toNat:Int)<(d.toNat:Int):=by have:=UInt8.lt_iff_toNat_lt.1 h;omega
theorem info5:(Tryz.prog.info? 5).map (fun i=>(i.zero,i.size,i.bytes))=some (some (.int .u8 0),1,1):=by kernel_rfl
set_option maxRecDepth 100000 in
set_option maxHeartbeats 4000000 in
theorem refText (s:ByteArray)(p:Nat)(hp:p<s.size)(hs:s.size<=1000000):Calls Tryz.prog 82 #[.string s,.int .i64 (p:Int)] w fun e w'=>OneIs s.size p (text [] ((bl s).drop (p+1))) e/\Below w.heap.size w w':=by
 obtain⟨i0,hi0,hz0,hz1,hz2⟩:=info_parts info5
 obtain⟨R,hR⟩:∃ R,text [] ((bl s).drop (p+1))=R:=⟨_,rfl⟩
 rw [hR]
 obtain⟨w1,hw1⟩:∃ w1,w1=w.alloc (.cells #[.int .i64 0,.int .i64 0,.string ⟨#[]⟩,.int .i64 0,.int .i64 0,.int .i64 0] 105):=⟨_,rfl⟩
 have HB:Hid (Below w.heap.size w w1):=by show Below _ _ _;rw [hw1];exact (Below.refl _ _).alloc (Nat.le_refl _) _
 have HG:Hid (w1.heap[w.heap.size]?=some (.cells zero55 105 (0,0))):=by show _=_;rw [hw1];exact heap_alloc_new _ _
 have HS:Hid (w.heap.size<w1.heap.size):=by show _<_;rw [hw1];simp
 go_enter Tryz.func82,Tryz.ntmps82
 go_wp2_with fail
 rw [<- hw1]
 clear hw1
 go_loopw [5,6] (fun v u wr=>∃ (k:Nat) (bs:List UInt8) (A1:Option Addr) (c1:Nat),p<k/\k<=s.size/\u=.int .i64 (k:Int)/\v=.slice A1 bs.length c1/\bs.length<=201/\Hid (text bs ((bl s).drop k)=R)/\Hid (Own u8E (fun _=>False) w1.heap.size 5 wr A1 c1 bs)/\Below w1.heap.size w1 wr) (fun _ u _=>s.size-(intOf u).toNat)
 case atStart=>exact⟨p+1,[],none,0,by omega,by omega,by go_num,rfl,by simp,hR,Own.nil,Below.refl _ _⟩
 case round =>
  obtain⟨k,bs,A1,c1,hpk,hk,rfl,rfl,hbs,hd,hown,hbl⟩:=hrel
  clear hR
  have HGr:Hid (wr.heap[w.heap.size]?=some (.cells zero55 105 (0,0))):=(hbl.block _ HS.out).trans HG.out
  have HBr:Hid (Below w.heap.size w wr):=HB.out.trans (hbl.mono (Nat.le_of_lt HS.out))
  by_cases hlt:k<s.size
  . have hdr:=Lib.hid (bl_drop s k hlt)
    by_cases h200:200<bs.length
    . have t200:decide ((200:Int)<(bs.length:Int))=true:=by rw [decide_eq_true_eq];omega
      have hr:Hid (R=.bad 2):=by show _=_;rw [<- hd.out];rw [hdr.out];unfold text;rw [if_pos h200]
      obtain⟨⟨z0,z1,z2,z3,z4,z5⟩,f0,f1,f2,f3,f4,f5⟩:=z55 HGr.out
      clear hd hown hbl
      go_wp2_with fail
      refine bodyPost_ret (results_cell_row Tryz.results82 _ _ w.heap.size 105 _ _ _ rfl (put55 HGr.out _ _ _ _ _ _) Tryz.underlying105 rfl (by kernel_rfl)) rfl ⟨?_,put55_below HBr.out (Nat.le_refl _) _ _ _ _ _ _⟩
      rw [hr.out]
      exact one_bad rfl
    . have t200:decide ((200:Int)<(bs.length:Int))=false:=by rw [decide_eq_false_iff_not];omega
      by_cases h34:(s[k].toNat:Int)=34
      . have hc:s[k]=34:=(eq_iff s[k] 34).2 h34
        have b34:((s[k].toNat:Int) == 34)=true:=by rw [h34];rfl
        have hr:Hid (R=.ok 3 bs 0 ((bl s).drop (k+1))):=by show _=_;rw [<- hd.out,hdr.out];unfold text;rw [if_neg h200,if_pos hc]
        have hq:Hid (s.size-((bl s).drop (k+1)).length=k+1):=by show _=_;rw [List.length_drop,bl_len];omega
        have hsl:=Lib.hid (hown.out.sl (P':=fun k=>k<wr.heap.size) (fun k hk _=>hk))
        obtain⟨⟨z0,z1,z2,z3,z4,z5⟩,f0,f1,f2,f3,f4,f5⟩:=z55 HGr.out
        clear hd hown hbl hc h34
        go_wp2_with (refine wpList_bytes_str rfl 157 9 5 (.tmp 31) rfl rfl Tryz.underlying157 Tryz.underlying5 Tryz.underlying9 rfl hsl.out ?_)
        refine bodyPost_ret (results_cell_row Tryz.results82 _ _ w.heap.size 105 _ _ _ rfl (put55 HGr.out _ _ _ _ _ _) Tryz.underlying105 rfl (by kernel_rfl)) rfl ⟨?_,put55_below HBr.out (Nat.le_refl _) _ _ _ _ _ _⟩
        rw [hr.out]
        exact one_ok (b:=⟨bs.toArray⟩) (by simp [bl]) hq.out (by go_num)
      . have n34:¬ s[k]=34:=fun h=>h34 ((eq_iff s[k] 34).1 h)
        have b34:((s[k].toNat:Int) == 34)=false:=beq_eq_false_iff_ne.2 h34
        by_cases h92:(s[k].toNat:Int)=92
        . have hc:s[k]=92:=(eq_iff s[k] 92).2 h92
          have b92:((s[k].toNat:Int) == 92)=true:=by rw [h92];rfl
          by_cases hl2:k+1<s.size
          . have hdr2:=Lib.hid (bl_drop s (k+1) hl2)
            have tl:decide ((k:Int)+1<(s.size:Int))=true:=by rw [decide_eq_true_eq];omega
            by_cases hp0:pair s[k+1]=0
            . have HP:Hid ((pair s[k+1]).toNat=0):=by show _=_;rw [hp0];rfl
              have hr:Hid (R=.bad 28):=by show _=_;rw [<- hd.out];rw [hdr.out,hdr2.out];unfold text;rw [if_neg h200,if_neg n34,if_pos hc];simp only;rw [if_pos hp0]
              obtain⟨⟨z0,z1,z2,z3,z4,z5⟩,f0,f1,f2,f3,f4,f5⟩:=z55 HGr.out
              clear hd hown hbl
              go_wp2_with fail
              have hcall:=refPair (w:=wr) s[k+1]
              rw [HP.out] at hcall
              have Hcall:=Lib.hid hcall
              clear hcall
              refine Hcall.out.mono ?_
              rintro e wq ⟨rfl,hwq⟩
              obtain rfl:wr=wq:=hwq.symm
              clear Hcall
              go_wp2_with fail
              refine bodyPost_ret (results_cell_row Tryz.results82 _ _ w.heap.size 105 _ _ _ rfl (put55 HGr.out _ _ _ _ _ _) Tryz.underlying105 rfl (by kernel_rfl)) rfl ⟨?_,put55_below HBr.out (Nat.le_refl _) _ _ _ _ _ _⟩
              rw [hr.out]
              exact one_bad rfl
            . have hp1:(((pair s[k+1]).toNat:Int) == 0)=false:=beq_eq_false_iff_ne.2 fun h=>hp0 ((eq_iff _ 0).2 h)
              have hp2:(((pair s[k+1]).toNat:Int) != 0)=true:=bne_iff_ne.2 fun h=>hp0 ((eq_iff _ 0).2 h)
              have hd2:Hid (text (bs++[pair s[k+1]]) ((bl s).drop (k+1+1))=R):=by
               show _=_
               rw [<- hd.out,hdr.out,hdr2.out]
               conv=>rhs;unfold text
               rw [if_neg h200,if_neg n34,if_pos hc]
               simp only
               rw [if_neg hp0]
              have Hp0:=Lib.hid hp0
              have HP:Hid (pair s[k+1]=pair s[k+1]):=rfl
              clear hp0 hd hc n34 hdr hdr2
              go_wp2_with fail
              have hcall:=refPair (w:=wr) s[k+1]
              have Hcall:=Lib.hid hcall
              clear hcall
              refine Hcall.out.mono ?_
              rintro e wq ⟨rfl,hwq⟩
              obtain rfl:wr=wq:=hwq.symm
              clear Hcall
              go_wp2_with fail
              have hcall:=refPair (w:=wr) s[k+1]
              have Hcall:=Lib.hid hcall
              clear hcall
              refine Hcall.out.mono ?_
              rintro e wq ⟨rfl,hwq⟩
              obtain rfl:wr=wq:=hwq.symm
              clear Hcall
              go_wp2_with (at_builtin;refine wpList_append_box rfl (.tmp 57) (.tmp 63) 157 rfl rfl rfl Tryz.underlying157 hi0 hz0 hz1 hz2 rfl (by decide) rfl hown.out hbl (pair s[k+1]) (fun _=>False) rfl (fun _ h=>h.elim) (fun _ _ h=>h) (by omega) ?_;intro A2 c2 w2 hown2 hb2 _ _)
              have ho2:Hid _:=Lib.hid hown2
              go_wp2_with fail
              go_roundw
              case rel=>exact⟨k+2,bs++[pair s[k+1]],A2,c2,by omega,by omega,by go_num,by simp,by simp;omega,hd2,ho2,hb2⟩
              case measure=>simp [intOf];omega
          . have hke:k+1=s.size:=by omega
            have tl:decide ((k:Int)+1<(s.size:Int))=false:=by rw [decide_eq_false_iff_not];omega
            have hr:Hid (R=.bad 28):=by show _=_;rw [<- hd.out];rw [hdr.out,hke,bl_end];unfold text;rw [if_neg h200,if_neg n34,if_pos hc]
            obtain⟨⟨z0,z1,z2,z3,z4,z5⟩,f0,f1,f2,f3,f4,f5⟩:=z55 HGr.out
            clear hd hown hbl
            go_wp2_with fail
            refine bodyPost_ret (results_cell_row Tryz.results82 _ _ w.heap.size 105 _ _ _ rfl (put55 HGr.out _ _ _ _ _ _) Tryz.underlying105 rfl (by kernel_rfl)) rfl ⟨?_,put55_below HBr.out (Nat.le_refl _) _ _ _ _ _ _⟩
            rw [hr.out]
            exact one_bad rfl
        . have n92:¬ s[k]=92:=fun h=>h92 ((eq_iff s[k] 92).1 h)
          have b92:((s[k].toNat:Int) == 92)=false:=beq_eq_false_iff_ne.2 h92
          by_cases hlo:(s[k].toNat:Int)<32
          . have tlo:decide ((s[k].toNat:Int)<32)=true:=decide_eq_true hlo
            have hr:Hid (R=.bad 28):=by show _=_;rw [<- hd.out];rw [hdr.out];unfold text;rw [if_neg h200,if_neg n34,if_neg n92,if_pos (.inl (lt_nat s[k] 32 hlo))]
            obtain⟨⟨z0,z1,z2,z3,z4,z5⟩,f0,f1,f2,f3,f4,f5⟩:=z55 HGr.out
            clear hd hown hbl
            go_wp2_with fail
            refine bodyPost_ret (results_cell_row Tryz.results82 _ _ w.heap.size 105 _ _ _ rfl (put55 HGr.out _ _ _ _ _ _) Tryz.underlying105 rfl (by kernel_rfl)) rfl ⟨?_,put55_below HBr.out (Nat.le_refl _) _ _ _ _ _ _⟩
            rw [hr.out]
            exact one_bad rfl
          . have tlo:decide ((s[k].toNat:Int)<32)=false:=decide_eq_false hlo
            by_cases hhi:(126:Int)<(s[k].toNat:Int)
            . have thi:decide ((126:Int)<(s[k].toNat:Int))=true:=decide_eq_true hhi
              have hr:Hid (R=.bad 28):=by show _=_;rw [<- hd.out];rw [hdr.out];unfold text;rw [if_neg h200,if_neg n34,if_neg n92,if_pos (.inr (lt_nat 126 s[k] hhi))]
              obtain⟨⟨z0,z1,z2,z3,z4,z5⟩,f0,f1,f2,f3,f4,f5⟩:=z55 HGr.out
              clear hd hown hbl
              go_wp2_with fail
              refine bodyPost_ret (results_cell_row Tryz.results82 _ _ w.heap.size 105 _ _ _ rfl (put55 HGr.out _ _ _ _ _ _) Tryz.underlying105 rfl (by kernel_rfl)) rfl ⟨?_,put55_below HBr.out (Nat.le_refl _) _ _ _ _ _ _⟩
              rw [hr.out]
              exact one_bad rfl
            . have thi:decide ((126:Int)<(s[k].toNat:Int))=false:=decide_eq_false hhi
              have hd2:Hid (text (bs++[s[k]]) ((bl s).drop (k+1))=R):=by
               show _=_
               rw [<- hd.out,hdr.out]
               conv=>rhs;unfold text
               rw [if_neg h200,if_neg n34,if_neg n92,if_neg (fun h=>h.elim (fun h=>hlo (nat_lt s[k] 32 h)) (fun h=>hhi (nat_lt 126 s[k] h)))]
              clear hd n34 n92 hdr
              go_wp2_with (at_builtin;refine wpList_append_box rfl (.tmp 17) (.tmp 21) 157 rfl rfl rfl Tryz.underlying157 hi0 hz0 hz1 hz2 rfl (by decide) rfl hown.out hbl s[k] (fun _=>False) rfl (fun _ h=>h.elim) (fun _ _ h=>h) (by omega) ?_;intro A2 c2 w2 hown2 hb2 _ _)
              have ho2:Hid _:=Lib.hid hown2
              go_wp2_with fail
              go_roundw
              case rel=>exact⟨k+1,bs++[s[k]],A2,c2,by omega,by omega,by go_num,by simp,by simp;omega,hd2,ho2,hb2⟩
              case measure=>simp [intOf];omega
  . obtain rfl:k=s.size:=by omega
    by_cases h200:200<bs.length
    . have t200:decide ((200:Int)<(bs.length:Int))=true:=by rw [decide_eq_true_eq];omega
      have hr:Hid (R=.bad 2):=by show _=_;rw [<- hd.out];rw [bl_end];unfold text;rw [if_pos h200]
      obtain⟨⟨z0,z1,z2,z3,z4,z5⟩,f0,f1,f2,f3,f4,f5⟩:=z55 HGr.out
      clear hd hown hbl
      go_wp2_with fail
      refine bodyPost_ret (results_cell_row Tryz.results82 _ _ w.heap.size 105 _ _ _ rfl (put55 HGr.out _ _ _ _ _ _) Tryz.underlying105 rfl (by kernel_rfl)) rfl ⟨?_,put55_below HBr.out (Nat.le_refl _) _ _ _ _ _ _⟩
      rw [hr.out]
      exact one_bad rfl
    . have t200:decide ((200:Int)<(bs.length:Int))=false:=by rw [decide_eq_false_iff_not];omega
      have hr:Hid (R=.bad 28):=by show _=_;rw [<- hd.out];rw [bl_end];unfold text;rw [if_neg h200]
      obtain⟨⟨z0,z1,z2,z3,z4,z5⟩,f0,f1,f2,f3,f4,f5⟩:=z55 HGr.out
      clear hd hown hbl
      go_wp2_with fail
      refine bodyPost_ret (results_cell_row Tryz.results82 _ _ w.heap.size 105 _ _ _ rfl (put55 HGr.out _ _ _ _ _ _) Tryz.underlying105 rfl (by kernel_rfl)) rfl ⟨?_,put55_below HBr.out (Nat.le_refl _) _ _ _ _ _ _⟩
      rw [hr.out]
      exact one_bad rfl
end Go.Proofs.YtgdalmleogphgaaGreatDoor
namespace Go.Proofs.YtgdalmleogphgaaGreatDoor
open Go.RowKit Go.Q Go.Lx
variable {w:World} {S:Reg} {A:Option Addr} {cap:Nat}
theorem OneIs.agg {n p:Nat}{o:Out}{e:Ending}(h:OneIs n p o e):∃ (k q:Int) (b:ByteArray) (v t x:Int),e=.returned (.agg #[.int .i64 k,.int .i64 q,.string b,.int .i64 v,.int .i64 t,.int .i64 x]):=by
 cases o with
 |ok k s v t=>obtain⟨b,_,rfl⟩:=h;exact⟨_,_,_,_,_,_,rfl⟩
 |bad x=>exact⟨_,_,_,_,_,_,h⟩
set_option maxRecDepth 100000 in
set_option maxHeartbeats 4000000 in
theorem refToken (s:ByteArray)(p:Nat)(hp:p<s.size)(hs:s.size<=1000000):Calls Tryz.prog 54 #[.string s,.int .i64 (p:Int)] w fun e w'=>OneIs s.size p (Lx.tok ((bl s).drop p)) e/\Below w.heap.size w w':=by
 obtain⟨w1,hw1⟩:∃ w1,w1=w.alloc (.cells #[.int .i64 0,.int .i64 0,.string ⟨#[]⟩,.int .i64 0,.int .i64 0,.int .i64 0] 105):=⟨_,rfl⟩
 have HB:Hid (Below w.heap.size w w1):=by show Below _ _ _;rw [hw1];exact (Below.refl _ _).alloc (Nat.le_refl _) _
 have HG:Hid (w1.heap[w.heap.size]?=some (.cells zero55 105 (0,0))):=by show _=_;rw [hw1];exact heap_alloc_new _ _
 have HS:Hid (w.heap.size<w1.heap.size):=by show _<_;rw [hw1];simp
 have hdr:=Lib.hid (bl_drop s p hp)
 go_enter Tryz.func54,Tryz.ntmps54
 go_wp2_with fail
 rw [<- hw1]
 clear hw1
 by_cases hl:isLetter s[p]=true
 . have HL:Hid (isLetter s[p]=true):=hl
   have HT:Hid (Lx.tok ((bl s).drop p)=name ((bl s).drop p)):=by show _=_;rw [hdr.out];unfold Lx.tok;simp only;rw [if_pos hl]
   clear hl hdr
   go_wp2_with fail
   have hcall:=refLetter (w:=w1) s[p]
   rw [HL.out] at hcall
   have Hcall:=Lib.hid hcall
   clear hcall
   refine Hcall.out.mono ?_
   rintro e wq ⟨rfl,hwq⟩
   obtain rfl:w1=wq:=hwq.symm
   clear Hcall
   go_wp2_with fail
   have hcall:=refName (w:=w1) s p (by omega) hs
   have Hcall:=Lib.hid hcall
   clear hcall
   refine Hcall.out.mono ?_
   rintro e w2 ⟨hone,hb2⟩
   obtain⟨k1,q1,b1,v1,t1,x1,rfl⟩:=hone.agg
   have HG2:Hid (w2.heap[w.heap.size]?=some (.cells zero55 105 (0,0))):=(hb2.block _ HS.out).trans HG.out
   have HB2:Hid (Below w.heap.size w w2):=HB.out.trans (hb2.mono (Nat.le_of_lt HS.out))
   obtain⟨⟨z0,z1,z2,z3,z4,z5⟩,f0,f1,f2,f3,f4,f5⟩:=z55 HG2.out
   have Hone:=Lib.hid hone
   clear Hcall hone hb2
   go_wp2_with fail
   refine bodyPost_ret (results_cell_row Tryz.results54 _ _ w.heap.size 105 _ _ _ rfl (put55 HG2.out _ _ _ _ _ _) Tryz.underlying105 rfl (by kernel_rfl)) rfl ⟨?_,put55_below HB2.out (Nat.le_refl _) _ _ _ _ _ _⟩
   rw [HT.out]
   exact Hone.out
 . have HL:Hid (isLetter s[p]=false):=by show _=_;simpa using hl
   by_cases hg:isDigit s[p]=true
   . have HD:Hid (isDigit s[p]=true):=hg
     have HT:Hid (Lx.tok ((bl s).drop p)=number ((bl s).drop p)):=by show _=_;rw [hdr.out];unfold Lx.tok;simp only;rw [if_neg hl,if_pos hg]
     clear hl hg hdr
     go_wp2_with fail
     have hcall:=refLetter (w:=w1) s[p]
     rw [HL.out] at hcall
     have Hcall:=Lib.hid hcall
     clear hcall
     refine Hcall.out.mono ?_
     rintro e wq ⟨rfl,hwq⟩
     obtain rfl:w1=wq:=hwq.symm
     clear Hcall
     go_wp2_with fail
     have hcall:=refDigit (w:=w1) s[p]
     rw [HD.out] at hcall
     have Hcall:=Lib.hid hcall
     clear hcall
     refine Hcall.out.mono ?_
     rintro e wq ⟨rfl,hwq⟩
     obtain rfl:w1=wq:=hwq.symm
     clear Hcall
     go_wp2_with fail
     have hcall:=refNumber (w:=w1) s p (by omega) hs
     have Hcall:=Lib.hid hcall
     clear hcall
     refine Hcall.out.mono ?_
     rintro e w2 ⟨hone,hb2⟩
     obtain⟨k1,q1,b1,v1,t1,x1,rfl⟩:=hone.agg
     have HG2:Hid (w2.heap[w.heap.size]?=some (.cells zero55 105 (0,0))):=(hb2.block _ HS.out).trans HG.out
     have HB2:Hid (Below w.heap.size w w2):=HB.out.trans (hb2.mono (Nat.le_of_lt HS.out))
     obtain⟨⟨z0,z1,z2,z3,z4,z5⟩,f0,f1,f2,f3,f4,f5⟩:=z55 HG2.out
     have Hone:=Lib.hid hone
     clear Hcall hone hb2
     go_wp2_with fail
     refine bodyPost_ret (results_cell_row Tryz.results54 _ _ w.heap.size 105 _ _ _ rfl (put55 HG2.out _ _ _ _ _ _) Tryz.underlying105 rfl (by kernel_rfl)) rfl ⟨?_,put55_below HB2.out (Nat.le_refl _) _ _ _ _ _ _⟩
     rw [HT.out]
     exact Hone.out
   . have HD:Hid (isDigit s[p]=false):=by show _=_;simpa using hg
     by_cases h34:(s[p].toNat:Int)=34
     . have hc:s[p]=34:=(eq_iff s[p] 34).2 h34
       have b34:((s[p].toNat:Int) == 34)=true:=by rw [h34];rfl
       have HT:Hid (Lx.tok ((bl s).drop p)=text [] ((bl s).drop (p+1))):=by show _=_;rw [hdr.out];unfold Lx.tok;simp only;rw [if_neg hl,if_neg hg,if_pos hc]
       clear hl hg hdr hc h34
       go_wp2_with fail
       have hcall:=refLetter (w:=w1) s[p]
       rw [HL.out] at hcall
       have Hcall:=Lib.hid hcall
       clear hcall
       refine Hcall.out.mono ?_
       rintro e wq ⟨rfl,hwq⟩
       obtain rfl:w1=wq:=hwq.symm
       clear Hcall
       go_wp2_with fail
       have hcall:=refDigit (w:=w1) s[p]
       rw [HD.out] at hcall
       have Hcall:=Lib.hid hcall
       clear hcall
       refine Hcall.out.mono ?_
       rintro e wq ⟨rfl,hwq⟩
       obtain rfl:w1=wq:=hwq.symm
       clear Hcall
       go_wp2_with fail
       have hcall:=refText (w:=w1) s p hp hs
       have Hcall:=Lib.hid hcall
       clear hcall
       refine Hcall.out.mono ?_
       rintro e w2 ⟨hone,hb2⟩
       obtain⟨k1,q1,b1,v1,t1,x1,rfl⟩:=hone.agg
       have HG2:Hid (w2.heap[w.heap.size]?=some (.cells zero55 105 (0,0))):=(hb2.block _ HS.out).trans HG.out
       have HB2:Hid (Below w.heap.size w w2):=HB.out.trans (hb2.mono (Nat.le_of_lt HS.out))
       obtain⟨⟨z0,z1,z2,z3,z4,z5⟩,f0,f1,f2,f3,f4,f5⟩:=z55 HG2.out
       have Hone:=Lib.hid hone
       clear Hcall hone hb2
       go_wp2_with fail
       refine bodyPost_ret (results_cell_row Tryz.results54 _ _ w.heap.size 105 _ _ _ rfl (put55 HG2.out _ _ _ _ _ _) Tryz.underlying105 rfl (by kernel_rfl)) rfl ⟨?_,put55_below HB2.out (Nat.le_refl _) _ _ _ _ _ _⟩
       rw [HT.out]
       exact Hone.out
     . have n34:¬ s[p]=34:=fun h=>h34 ((eq_iff s[p] 34).1 h)
       have b34:((s[p].toNat:Int) == 34)=false:=beq_eq_false_iff_ne.2 h34
       have HT:Hid (Lx.tok ((bl s).drop p)=sign ((bl s).drop p)):=by show _=_;rw [hdr.out];unfold Lx.tok;simp only;rw [if_neg hl,if_neg hg,if_neg n34]
       have HX:Hid (bl (s.extract p s.size)=(bl s).drop p):=by show _=_;rw [bl_ext,List.take_of_length_le (by rw [List.length_drop,bl_len];exact Nat.le_refl _)]
       have hsz:(s.extract p s.size).size<=1000000:=by rw [<- bl_len,HX.out,List.length_drop,bl_len];omega
       clear hl hg h34 n34
       go_wp2_with fail
       have hcall:=refLetter (w:=w1) s[p]
       rw [HL.out] at hcall
       have Hcall:=Lib.hid hcall
       clear hcall
       refine Hcall.out.mono ?_
       rintro e wq ⟨rfl,hwq⟩
       obtain rfl:w1=wq:=hwq.symm
       clear Hcall
       go_wp2_with fail
       have hcall:=refDigit (w:=w1) s[p]
       rw [HD.out] at hcall
       have Hcall:=Lib.hid hcall
       clear hcall
       refine Hcall.out.mono ?_
       rintro e wq ⟨rfl,hwq⟩
       obtain rfl:w1=wq:=hwq.symm
       clear Hcall
       go_wp2_with fail
       have hcall:=refSign (w:=w1) (s.extract p s.size) hsz
       have Hcall:=Lib.hid hcall
       clear hcall
       refine Hcall.out.mono ?_
       rintro e w2 ⟨⟨t,rfl,ht⟩,hb2⟩
       rw [HX.out] at ht
       have HG2:Hid (w2.heap[w.heap.size]?=some (.cells zero55 105 (0,0))):=(hb2.block _ HS.out).trans HG.out
       have HB2:Hid (Below w.heap.size w w2):=HB.out.trans (hb2.mono (Nat.le_of_lt HS.out))
       obtain⟨⟨z0,z1,z2,z3,z4,z5⟩,f0,f1,f2,f3,f4,f5⟩:=z55 HG2.out
       have hl1:=bl_len t
       clear Hcall hb2
       cases hsg:sign ((bl s).drop p) with
       |bad x =>
        have h26:x=26:=by
         revert hsg;unfold sign;intro h;split at h
         . cases h
         . split at h
           . cases h;rfl
           . split at h
             . cases h
             . cases h;rfl
        subst h26
        have hr:Hid (Lx.tok ((bl s).drop p)=.bad 26):=HT.out.trans hsg
        have he:bl t=[]:=by rw [ht];unfold sgn;rw [hsg]
        have bt:t.toList.isEmpty=true:=by rw [Lib.toList_data,List.isEmpty_iff];exact he
        have tz:t=⟨#[]⟩:=bytes_ext (by rw [show t.data.toList=[] from he])
        subst tz
        clear hsg ht hl1 he bt hdr
        go_wp2_with fail
        refine bodyPost_ret (results_cell_row Tryz.results54 _ _ w.heap.size 105 _ _ _ rfl (put55 HG2.out _ _ _ _ _ _) Tryz.underlying105 rfl (by kernel_rfl)) rfl ⟨?_,put55_below HB2.out (Nat.le_refl _) _ _ _ _ _ _⟩
        rw [hr.out]
        exact one_bad rfl
       |ok k st v r =>
        obtain⟨rfl,rfl,e1,e2⟩:=sign_parts hsg
        have hr:Hid (Lx.tok ((bl s).drop p)=.ok 4 st 0 r):=HT.out.trans hsg
        have he:bl t=st:=by rw [ht];unfold sgn;rw [hsg]
        have hne:¬ bl t=[]:=by
         rw [he];rintro rfl
         rcases e2 with h|⟨c,h,_⟩
         . exact absurd (long_len h) (by decide)
         . cases h
        have bt:t.toList.isEmpty=false:=by rw [Lib.toList_data,List.isEmpty_eq_false_iff];exact hne
        have hlen:t.size=st.length:=by rw [<- hl1,he]
        have hq:s.size-r.length=p+t.size/\p+t.size<=s.size:=by
         have:=congrArg List.length e1
         rw [List.length_drop,bl_len,List.length_append] at this;omega
        have Hq:=Lib.hid hq.1
        have Hqq:=hq.2
        have He:=Lib.hid he
        clear hsg ht hl1 he hne hlen hq e1 e2 hdr
        go_wp2_with fail
        refine bodyPost_ret (results_cell_row Tryz.results54 _ _ w.heap.size 105 _ _ _ rfl (put55 HG2.out _ _ _ _ _ _) Tryz.underlying105 rfl (by kernel_rfl)) rfl ⟨?_,put55_below HB2.out (Nat.le_refl _) _ _ _ _ _ _⟩
        rw [hr.out]
        exact one_ok He.out Hq.out (by first|(rw [Int.natCast_add];rfl)|(push_cast;rfl)|simp)
end Go.Proofs.YtgdalmleogphgaaGreatDoor
