/-
  sync.Once's parts, the lock free, nothing done yet: each a contract. The replacer used: once built, then its table's bytes replaced. The replacer built: walked in memory. The replacer's first use, in plain values: the text is quoted, and the replacer's cells may have turned. What the lexer's functions answer, in the form that lifted walks use: Tokens, the reference's Tokens, Text.
-/
import Derived.Test.YtkcfmlfkfagejaaGreatDoorChecked
import Derived.Tactics2
import Derived.Defers
import Derived.Laws.Pointers
import Derived.Laws.LoneSync
import Derived.RegionTactic
import Derived.RegionCalls
import Derived.ChangeAlike
import Derived.Test.YtkcfmlfkfagejaaGreatDoorU1
import Derived.Test.YtkcfmlfkfagejaaGreatDoorU7
import Derived.Test.YtkcfmlfkfagejaaGreatDoorU12
import Derived.Test.YtkcfmlfkfagejaaGreatDoorU38
import Derived.Test.YtkcfmlfkfagejaaGreatDoorU40
import Derived.Test.YtkcfmlfkfagejaaGreatDoorU41
import Derived.Test.YtkcfmlfkfagejaaGreatDoorU42
set_option linter.unusedVariables false
set_option linter.unusedSimpArgs false
namespace Go.Proofs.YtkcfmlfkfagejaaGreatDoor
open Go.RowKit Go.Q
set_option maxRecDepth 100000
set_option maxHeartbeats 1600000
theorem disable (w:World):(callFunc 229 #[]).run Tryz.prog w=.ok (.value (.tuple #[])) w:=run_call_mark0 Tryz.func229 (by kernel_rfl) (by kernel_rfl) (by kernel_rfl) .disable (by kernel_rfl) w
theorem enable (w:World):(callFunc 231 #[]).run Tryz.prog w=.ok (.value (.tuple #[])) w:=run_call_mark0 Tryz.func231 (by kernel_rfl) (by kernel_rfl) (by kernel_rfl) .enable (by kernel_rfl) w
theorem acquire (a:Addr)(w:World):(callFunc 232 #[.pointer (some a)]).run Tryz.prog w=.ok (.value (.tuple #[])) w:=run_call_marked Tryz.func232 (by kernel_rfl) (by kernel_rfl) (by kernel_rfl) .acquire (by kernel_rfl) a w
theorem releaseMerge (a:Addr)(w:World):(callFunc 234 #[.pointer (some a)]).run Tryz.prog w=.ok (.value (.tuple #[])) w:=run_call_marked Tryz.func234 (by kernel_rfl) (by kernel_rfl) (by kernel_rfl) .releaseMerge (by kernel_rfl) a w
theorem Ox (a:Addr)(x:Value)(u:FrameMode)(w:World)(hc:w.cell? a=some x)(hz:w.frozen? a=false) :
 CallsD Tryz.prog 188 #[.pointer (some a),.bool true] u w fun e u' w'=>u'=u/\(e=.returned (.tuple #[])/\w'=w.drew.setCell a (.int .u32 1)):=by
 have hc':w.drew.cell? a=some x:=by go_simp
 have hz':w.drew.frozen? a=false:=by go_simp
 have hst:=run_call_store (P:=Tryz.prog) Tryz.func212 (by kernel_rfl) (by kernel_rfl) (by kernel_rfl) (by kernel_rfl) (k:=.u32) (y:=1) hc' hz'
 go_enter_d Tryz.func188,Tryz.ntmps188
 go_wp2
 go_region_calls
 all_goals (go_end0;exact⟨rfl,rfl⟩)
theorem NO (a:Addr)(u:FrameMode)(w:World)(hc:w.cell? a=some (.int .i32 1))(hz:w.frozen? a=false) :
 CallsD Tryz.prog 187 #[.pointer (some a)] u w fun e u' w'=>u'=u/\(e=.returned (.tuple #[])/\w'=w.setCell a (.int .i32 0)):=by
 have hd:=disable
 have he:=enable
 have hr:=releaseMerge
 have hadd:=run_call_add (P:=Tryz.prog) Tryz.func235 (by kernel_rfl) (by kernel_rfl) (by kernel_rfl) .i32 (by kernel_rfl) (y:=-1) (s:=0) hc hz (by simp [go_sem];rfl)
 have hcv:=run_convert_to_unsafe (P:=Tryz.prog) (src:=308) (dst:=273) Tryz.underlying308 Tryz.underlying273 (by kernel_rfl) hc
 go_enter_d Tryz.func187,Tryz.ntmps187
 go_wp2
 go_end0
 go_wp2
 go_end0
 exact⟨rfl,rfl⟩
theorem VE (a:Addr)(w:World)(hc:w.cell? a=some (.int .i32 0))(hz:w.frozen? a=false) :
 Calls Tryz.prog 186 #[.pointer (some a)] w fun e w'=>e=.returned (.tuple #[])/\w'=w.setCell a (.int .i32 1):=by
 have hd:=disable
 have he:=enable
 have ha:=acquire
 have hcas:=run_call_cas_hit (P:=Tryz.prog) Tryz.func230 (by kernel_rfl) (by kernel_rfl) (by kernel_rfl) .i32 (by kernel_rfl) (y:=1) hc hz
 have hc':(w.setCell a (.int .i32 1)).cell? a=some (.int .i32 1):=World.cell?_setCell_same w a _ hc
 have hcv:=run_convert_to_unsafe (P:=Tryz.prog) (src:=308) (dst:=273) Tryz.underlying308 Tryz.underlying273 (by kernel_rfl) hc'
 go_enter Tryz.func186,Tryz.ntmps186
 go_wp2
 first|go_end0|(simp only [Exit.inBlock,Exit.then];refine bodyPost_ret (results_none rfl _ _ _) rfl ?_)|refine bodyPost_ret (results_none rfl _ _ _) rfl ?_
 go_wp2
 go_end0
 exact⟨rfl,rfl⟩
def P3 (R:Nat->World->Nat->Prop)(w:World)(g:Nat):Prop :=
 Calls Tryz.prog 161 #[.pointer (some ⟨g,0,none⟩)] w fun e w'=>∃ X,e=.returned (.iface 272 (.pointer (some ⟨X,0,none⟩)))/\Below w.heap.size w w'/\R w.heap.size w' X
theorem Zq {R:Nat->World->Nat->Prop}{w:World}{g:Nat}{x3 x4:Value}(hb:P3 R w g)(hg:g<w.heap.size)(h3:w.cell? ⟨g,3,none⟩=some x3)(h4:w.cell? ⟨g,4,none⟩=some x4)
 (f3:w.frozen? ⟨g,3,none⟩=false) (f4:w.frozen? ⟨g,4,none⟩=false) :
 Calls Tryz.prog 139 #[.pointer (some ⟨g,0,none⟩)] w fun e w'=>e=.returned (.tuple #[])/\∃ X w1,Below w.heap.size w w1/\R w.heap.size w1 X /\
  w'=(w1.setCell ⟨g,3,none⟩ (.iface 272 (.pointer (some ⟨X,0,none⟩)))).setCell ⟨g,4,none⟩ (.slice none 0 0):=by
 go_enter Tryz.func139,Tryz.ntmps139
 go_wp2_with fail
 refine hb.mono ?_
 rintro e w1 ⟨X,rfl,hb1,hr⟩
 have h3':w1.cell? ⟨g,3,none⟩=some x3:=(hb1.cell hg).trans h3
 have h4':(w1.setCell ⟨g,3,none⟩ (.iface 272 (.pointer (some ⟨X,0,none⟩)))).cell? ⟨g,4,none⟩=some x4:=(World.cell?_setCell_other _ ⟨g,3,none⟩ ⟨g,4,none⟩ _ (by simp)).trans ((hb1.cell hg).trans h4)
 have z3:w1.frozen? ⟨g,3,none⟩=false:=(World.frozen?_of_block (hb1.block g hg)).trans f3
 have z4:w1.frozen? ⟨g,4,none⟩=false:=(World.frozen?_of_block (hb1.block g hg)).trans f4
 go_wp2
 go_end0
 exact⟨rfl,X,w1,hb1,hr,rfl⟩
def K7 (w1:World)(g X:Nat):World:=((((w1.setCell ⟨g,3,none⟩ (.iface 272 (.pointer (some ⟨X,0,none⟩)))).setCell ⟨g,4,none⟩ (.slice none 0 0)).drew.setCell ⟨g,0,none⟩ (.int .u32 1)).setCell ⟨g,1,none⟩ (.int .i32 0))
structure RC (w:World) (g:Nat):Prop where
 lt:g<w.heap.size
 c0:w.cell? ⟨g,0,none⟩=some (.int .u32 0)
 c1:w.cell? ⟨g,1,none⟩=some (.int .i32 0)
 c3:∃ x,w.cell? ⟨g,3,none⟩=some x
 c4:∃ x,w.cell? ⟨g,4,none⟩=some x
 fz:∀ i,w.frozen? ⟨g,i,none⟩=false
 blk:∃ arr T,w.heap[g]?=some (.cells arr T (0,0))/\arr.size=5
theorem Zh {R:Nat->World->Nat->Prop}{w:World}{g:Nat}(hu:RC w g)(hb:P3 R (w.setCell ⟨g,1,none⟩ (.int .i32 1)) g) :
 Calls Tryz.prog 160 #[.pointer (some ⟨g,0,none⟩),.func (.func 139) #[.pointer (some ⟨g,0,none⟩)] #[]] w fun e w'=>e=.returned (.tuple #[]) /\
  ∃ X w1,Below w.heap.size (w.setCell ⟨g,1,none⟩ (.int .i32 1)) w1/\R w.heap.size w1 X/\w'=K7 w1 g X:=by
 obtain⟨hg,h0,h1,⟨x3,h3⟩,⟨x4,h4⟩,fz,_⟩:=hu
 have hz:(w.setCell ⟨g,1,none⟩ (.int .i32 1)).heap.size=w.heap.size:=by simp
 have g0:(w.setCell ⟨g,1,none⟩ (.int .i32 1)).cell? ⟨g,0,none⟩=some (.int .u32 0):=(World.cell?_setCell_other _ ⟨g,1,none⟩ ⟨g,0,none⟩ _ (by simp)).trans h0
 have g1:(w.setCell ⟨g,1,none⟩ (.int .i32 1)).cell? ⟨g,1,none⟩=some (.int .i32 1):=World.cell?_setCell_same w _ _ h1
 have g3:(w.setCell ⟨g,1,none⟩ (.int .i32 1)).cell? ⟨g,3,none⟩=some x3:=(World.cell?_setCell_other _ ⟨g,1,none⟩ ⟨g,3,none⟩ _ (by simp)).trans h3
 have g4:(w.setCell ⟨g,1,none⟩ (.int .i32 1)).cell? ⟨g,4,none⟩=some x4:=(World.cell?_setCell_other _ ⟨g,1,none⟩ ⟨g,4,none⟩ _ (by simp)).trans h4
 have gz:∀ i,(w.setCell ⟨g,1,none⟩ (.int .i32 1)).frozen? ⟨g,i,none⟩=false:=fun i=>by simp [fz i]
 have ho:=Zq hb (by rw [hz];exact hg) g3 g4 (gz 3) (gz 4)
 have f0:=fz 0
 have f1:=fz 1
 have hl:=run_call_load (P:=Tryz.prog) Tryz.func185 (by kernel_rfl) (by kernel_rfl) (by kernel_rfl) .u32 (by kernel_rfl) (w:=w.setCell ⟨g,1,none⟩ (.int .i32 1)) (a:=⟨g,0,none⟩) (x:=0) g0
 have hlock:=VE ⟨g,1,none⟩ w h1 f1
 have hnot:∀ (x:Bool) (w:World),(Op.unary .not (.bool x)).run Tryz.prog w=.ok (.bool (!x)) w:=fun _ _=>rfl
 rw [hz] at ho
 obtain⟨W,hW⟩:∃ W,w.setCell ⟨g,1,none⟩ (.int .i32 1)=W:=⟨_,rfl⟩
 rw [hW] at ho hl hlock g0 g1 gz hz ⊢
 clear hW hb
 go_enter_defers Tryz.func160,Tryz.ntmps160
 go_wp2_with (first|(go_at_call 186;refine hlock.mono ?_;rintro e wq ⟨rfl,hwq⟩;obtain rfl:W=wq:=hwq.symm)|(go_at_call 159;go_in)|fail)
 refine ho.mono ?_
 rintro e w2 ⟨rfl,X,w1,hb1,hr,rfl⟩
 have gW:g<W.heap.size:=by rw [hz];exact hg
 have hb1':Below W.heap.size W w1:=by rw [hz];exact hb1
 have k0:w1.cell? ⟨g,0,none⟩=some (.int .u32 0):=(hb1'.cell gW).trans g0
 have k1:w1.cell? ⟨g,1,none⟩=some (.int .i32 1):=(hb1'.cell gW).trans g1
 have kz:∀ i,w1.frozen? ⟨g,i,none⟩=false:=fun i=>(World.frozen?_of_block (hb1'.block g gW)).trans (gz i)
 have t0:((w1.setCell ⟨g,3,none⟩ (.iface 272 (.pointer (some ⟨X,0,none⟩)))).setCell ⟨g,4,none⟩ (.slice none 0 0)).cell? ⟨g,0,none⟩=some (.int .u32 0) :=
  (World.cell?_setCell_other _ ⟨g,4,none⟩ ⟨g,0,none⟩ _ (by simp)).trans ((World.cell?_setCell_other _ ⟨g,3,none⟩ ⟨g,0,none⟩ _ (by simp)).trans k0)
 have t1:((w1.setCell ⟨g,3,none⟩ (.iface 272 (.pointer (some ⟨X,0,none⟩)))).setCell ⟨g,4,none⟩ (.slice none 0 0)).cell? ⟨g,1,none⟩=some (.int .i32 1) :=
  (World.cell?_setCell_other _ ⟨g,4,none⟩ ⟨g,1,none⟩ _ (by simp)).trans ((World.cell?_setCell_other _ ⟨g,3,none⟩ ⟨g,1,none⟩ _ (by simp)).trans k1)
 go_wp2
 refine leaves_cons (f:=188) (args:=#[.pointer (some ⟨g,0,none⟩),.bool true]) (by simp) (by simp [go_sem]) ?_
 refine (Ox ⟨g,0,none⟩ (.int .u32 0) .returning _ t0 (by simp [kz 0])).mono ?_
 rintro e u' w'' ⟨rfl,rfl,rfl⟩
 refine leaves_cons (f:=187) (args:=#[.pointer (some ⟨g,1,none⟩)]) (by simp [settle]) (by simp [go_sem]) ?_
 refine (NO ⟨g,1,none⟩ _ _ ?_ (by simp [kz 1])).mono ?_
 . refine (World.cell?_setCell_other _ ⟨g,0,none⟩ ⟨g,1,none⟩ _ (by simp)).trans ?_
   rw [World.cell?_drew]
   exact t1
 rintro e u' w'' ⟨rfl,rfl,rfl⟩
 simp [Leaves,settle,results,Tryz.results160]
 exact⟨X,w1,hb1,hr,rfl⟩
theorem Acl {R:Nat->World->Nat->Prop}{w:World}{g:Nat}(hu:RC w g)(hb:P3 R (w.setCell ⟨g,1,none⟩ (.int .i32 1)) g) :
 Calls Tryz.prog 138 #[.pointer (some ⟨g,0,none⟩),.func (.func 139) #[.pointer (some ⟨g,0,none⟩)] #[]] w fun e w'=>e=.returned (.tuple #[]) /\
  ∃ X w1,Below w.heap.size (w.setCell ⟨g,1,none⟩ (.int .i32 1)) w1/\R w.heap.size w1 X/\w'=K7 w1 g X:=by
 have hs:=Zh hu hb
 have h0:=hu.c0
 have hl:=run_call_load (P:=Tryz.prog) Tryz.func185 (by kernel_rfl) (by kernel_rfl) (by kernel_rfl) .u32 (by kernel_rfl) h0
 have hnot:∀ (x:Bool) (w:World),(Op.unary .not (.bool x)).run Tryz.prog w=.ok (.bool (!x)) w:=fun _ _=>rfl
 clear hb
 go_enter Tryz.func138,Tryz.ntmps138
 go_wp2_with (first|(go_at_call 159;go_in)|fail)
 refine hs.mono ?_
 rintro e w' ⟨rfl,X,w1,h1,h2,rfl⟩
 go_wp2
 go_end0
 exact⟨rfl,X,w1,h1,h2,rfl⟩
end Go.Proofs.YtkcfmlfkfagejaaGreatDoor
namespace Go.Proofs.YtkcfmlfkfagejaaGreatDoor
open Go.RowKit Go.Q Go.Lx Go.Vl
set_option maxRecDepth 100000
set_option maxHeartbeats 2000000
def Lv (B:Nat)(w:World)(X:Nat):Prop:=∃ Y cap,B<=X/\B<=Y/\w.cell? ⟨X,256,none⟩=some (.slice (some ⟨Y,0,none⟩) 3 cap)/\(∀ m,m<3->w.cell? ⟨Y,m,none⟩=some (.string ⟨⟨[MM m]⟩⟩)) /\
 ∀ c:UInt8,(isSp c=true/\∃ a cap x y,B<=a.block/\w.cell? ⟨X,c.toNat,none⟩=some (.slice (some a) 2 cap)/\Hu c=[x,y]/\w.cell? a=some (.int .u8 (x.toNat:Int))/\w.cell? (a.add 1)=some (.int .u8 (y.toNat:Int))) ∨
  (isSp c=false/\w.cell? ⟨X,c.toNat,none⟩=some (.slice none 0 0))
theorem DS {w w':World}{a:Addr}(h:w'.heap[a.block]?=w.heap[a.block]?):w'.cell? a=w.cell? a:=by unfold World.cell?;rw [h]
theorem U3 (a:Addr)(k:Nat):(a.add k).block=a.block:=by unfold Addr.add;split<;>rfl
theorem ZJ (x:Value)(w:World):(method 481 272 x "Replace").run Tryz.prog w=.ok (290,x) w:=by kernel_rfl
theorem Lv.same {B:Nat}{w w':World}{X:Nat}(h:Lv B w X)(hk:∀ k,B<=k->w'.heap[k]?=w.heap[k]?):Lv B w' X:=by
 obtain⟨Y,cap,h1,h2,h3,h4,h5⟩:=h
 refine⟨Y,cap,h1,h2,(DS (hk X h1)).trans h3,fun m hm=>(DS (hk Y h2)).trans (h4 m hm),fun c=>?_⟩
 rcases h5 c with⟨g0,a,cp,x,y,g1,g2,g3,g4,g5⟩|⟨g0,g1⟩
 . exact .inl ⟨g0,a,cp,x,y,g1,(DS (hk X h1)).trans g2,g3,(DS (hk a.block g1)).trans g4,(DS (a:=a.add 1) (hk _ (by rw [U3];exact g1))).trans g5⟩
 . exact .inr ⟨g0,(DS (hk X h1)).trans g1⟩
theorem Lv.run {B:Nat}{w:World}{X:Nat}(h:Lv B w X)(s:ByteArray)(hs:s.size<=1000000) :
 Calls Tryz.prog 290 #[.pointer (some ⟨X,0,none⟩),.string s] w fun e w'=>e=.returned (.string ⟨⟨Lx.quoted (bl s)⟩⟩)/\Below w.heap.size w w':=by
 obtain⟨Y,cap,h1,h2,h3,h4,h5⟩:=h
 refine Y9 X Y cap s hs (fun c=>?_) h3 h4
 rcases h5 c with⟨g0,a,cp,x,y,g1,g⟩|g
 . exact .inl ⟨g0,a,cp,x,y,g⟩
 . exact .inr g
theorem OA (w1:World)(g X k:Nat)(hk:k≠g):(K7 w1 g X).heap[k]?=w1.heap[k]?:=by
 unfold K7
 rw [Below.heap_setCell _ _ _ k hk,Below.heap_setCell _ _ _ k hk]
 show ((w1.setCell ⟨g,3,none⟩ _).setCell ⟨g,4,none⟩ _).heap[k]?=_
 rw [Below.heap_setCell _ _ _ k hk,Below.heap_setCell _ _ _ k hk]
theorem LH (w1:World)(g X:Nat):(K7 w1 g X).heap.size=w1.heap.size:=by simp [K7]
theorem Qs (w1:World)(g X:Nat){arr:Array Value}{T:TypeId}(h:w1.heap[g]?=some (.cells arr T (0,0))) :
 (K7 w1 g X).heap[g]?=some (.cells ((((arr.setIfInBounds 3 (.iface 272 (.pointer (some ⟨X,0,none⟩)))).setIfInBounds 4 (.slice none 0 0)).setIfInBounds 0 (.int .u32 1)).setIfInBounds 1 (.int .i32 0)) T (0,0)):=by
 unfold K7
 refine heap_setCell_same _ _ _ _ _ _ (heap_setCell_same _ _ _ _ _ _ ?_)
 exact heap_setCell_same _ _ _ _ _ _ (heap_setCell_same _ _ _ _ _ _ h)
theorem S0 (w1:World)(g X:Nat):Below 0 w1 (K7 w1 g X) :=
 ((((((Below.refl 0 w1).setCell (Nat.zero_le _) _).setCell (Nat.zero_le _) _).trans ((RF.one _).below _)).setCell (Nat.zero_le _) _).setCell (Nat.zero_le _) _)
theorem Vy {w:World}{g:Nat}(hu:RC w g)(hb:P3 Lv (w.setCell ⟨g,1,none⟩ (.int .i32 1)) g)(s:ByteArray)(hs:s.size<=1000000) :
 Calls Tryz.prog 114 #[.pointer (some ⟨g,0,none⟩),.string s] w fun e w'=>e=.returned (.string ⟨⟨Lx.quoted (bl s)⟩⟩) /\
  ∃ X w1,Below w.heap.size (w.setCell ⟨g,1,none⟩ (.int .i32 1)) w1/\Below w1.heap.size (K7 w1 g X) w':=by
 have hd:=Lib.hid (Acl hu hb)
 have hg:=hu.lt
 obtain⟨arr,T,hblk,h5⟩:=hu.blk
 have hz:(w.setCell ⟨g,1,none⟩ (.int .i32 1)).heap.size=w.heap.size:=by simp
 have hmf:∀ (fn:Fn) (first cap:Array Value) (w:World),(Instr.makeFunc fn first cap).run Tryz.prog w=.ok (.func fn first cap) w:=fun _ _ _ _=>rfl
 clear hb hu
 go_enter Tryz.func114,Tryz.ntmps114
 go_wp2_with fail
 refine hd.out.mono ?_
 rintro e wq ⟨rfl,X,w1,hb1,hr,hwq⟩
 obtain⟨W,hW⟩:∃ W,K7 w1 g X=W:=⟨_,rfl⟩
 have c3:W.cell? ⟨g,3,none⟩=some (.iface 272 (.pointer (some ⟨X,0,none⟩))):=by
  rw [<- hW]
  have hb:=Qs w1 g X ((hb1.block g hg).trans (heap_setCell_same w g 1 _ _ _ hblk))
  unfold World.cell?
  simp only [hb]
  simp [h5]
 have hrW:Lv w.heap.size W X:=hr.same fun k hk=>by rw [<- hW];exact OA w1 g X k (by omega)
 have hrun:=Lib.hid (hrW.run s hs)
 rw [hW] at hwq
 obtain rfl:W=wq:=hwq.symm
 have hinv:=ZJ
 clear hd hr hrW
 go_wp2_with fail
 refine hrun.out.mono ?_
 rintro e wv ⟨rfl,hbv⟩
 go_wp2
 go_ret
 exact⟨rfl,X,w1,hb1,by rw [hW];rw [<- hW,LH] at hbv;rw [<- hW];exact hbv⟩
end Go.Proofs.YtkcfmlfkfagejaaGreatDoor
namespace Go.Proofs.YtkcfmlfkfagejaaGreatDoor
open Go.RowKit Go.Q Go.Lx Go.Vl
set_option maxRecDepth 100000
set_option maxHeartbeats 2000000
variable {w:World}
theorem QD:Tryz.zeroCells271=(List.replicate 257 (Value.slice none 0 0)).toArray:=by kernel_rfl
def IK (c:UInt8)(m:Nat):Bool:=(decide (1<=m)&&c == 10)||(decide (2<=m)&&c == 92)||(decide (3<=m)&&c == 34)
structure Part (w:World) (B X Y m:Nat):Prop where
 row:∃ arr:Array Value,w.heap[X]?=some (.cells arr 271 (0,0))/\arr.size=257/\arr[256]?=some (.slice (some ⟨Y,0,none⟩) m 3) /\
  ∀ c:UInt8,(IK c m=true/\∃ b cp x y,B<=b/\b≠X/\b≠Y/\b<w.heap.size/\arr[c.toNat]?=some (.slice (some ⟨b,0,none⟩) 2 cp)/\Hu c=[x,y]/\w.cell? ⟨b,0,none⟩=some (.int .u8 (x.toNat:Int))/\w.cell? ⟨b,1,none⟩=some (.int .u8 (y.toNat:Int))) ∨
   (IK c m=false/\arr[c.toNat]?=some (.slice none 0 0))
 lst:∃ ys:Array Value,w.heap[Y]?=some (.cells ys 9 (0,0))/\ys.size=3/\∀ j,j<m->ys[j]?=some (.string ⟨⟨[MM j]⟩⟩)
theorem Sd (c:UInt8){m:Nat}(h:m<3):IK c (m+1)=(IK c m||c == MM m):=by
 match m,h with
 |0,_=>simp [IK,MM]
 |1,_=>simp [IK,MM]
 |2,_=>simp [IK,MM]
theorem V4 {wr w':World}{B X Y m b cp:Nat}{c x y:UInt8}(hp:Part wr B X Y m)(hm:m<3)(hc:c=MM m)(hq:Hu c=[x,y])
 (h1:∀ k,k<wr.heap.size->k≠X->k≠Y->w'.heap[k]?=wr.heap[k]?)
 (h2:∀ arr,wr.heap[X]?=some (.cells arr 271 (0,0))->w'.heap[X]?=some (.cells ((arr.setIfInBounds 256 (.slice (some ⟨Y,0,none⟩) (m+1) 3)).setIfInBounds c.toNat (.slice (some ⟨b,0,none⟩) 2 cp)) 271 (0,0)))
 (h3:∃ zs:Array Value,w'.heap[Y]?=some (.cells zs 9 (0,0))/\zs.size=3/\∀ j,j<m+1->zs[j]?=some (.string ⟨⟨[MM j]⟩⟩))
 (hb:wr.heap.size<=b) (hB:B<=b) (hb':b<w'.heap.size)
 (hx:w'.cell? ⟨b,0,none⟩=some (.int .u8 (x.toNat:Int))) (hy:w'.cell? ⟨b,1,none⟩=some (.int .u8 (y.toNat:Int))):Part w' B X Y (m+1):=by
 obtain⟨⟨arr,hrow,hrz,hr256,hrc⟩,ys,hys,hyz,hyj⟩:=hp
 have hXs:X<wr.heap.size:=(Array.getElem?_eq_some_iff.1 hrow).1
 have hYs:Y<wr.heap.size:=(Array.getElem?_eq_some_iff.1 hys).1
 have hcn:=c.toNat_lt
 refine⟨⟨_,h2 arr hrow,by simp [hrz],?_,fun d=>?_⟩,h3⟩
 . rw [Array.getElem?_setIfInBounds_ne (by omega),Array.getElem?_setIfInBounds_self_of_lt (by omega)]
 . have hdn:=d.toNat_lt
   rw [Sd d hm,<- hc]
   by_cases hd:d=c
   . refine .inl ⟨by simp [hd],b,cp,x,y,hB,by omega,by omega,hb',?_,by rw [hd];exact hq,hx,hy⟩
     rw [hd,Array.getElem?_setIfInBounds_self_of_lt (by simp [hrz];omega)]
   . have hdt:d.toNat≠c.toNat:=fun e=>hd (UInt8.toNat_inj.1 e)
     rw [beq_eq_false_iff_ne.2 hd,Bool.or_false,Array.getElem?_setIfInBounds_ne (by omega),Array.getElem?_setIfInBounds_ne (by omega)]
     rcases hrc d with⟨g0,b0,cp0,x0,y0,g1,g2,g3,g4,g5,g6,g7,g8⟩|g
     . exact .inl ⟨g0,b0,cp0,x0,y0,g1,g2,g3,by omega,g5,g6,(DS (a:=⟨b0,0,none⟩) (h1 b0 g4 g2 g3)).trans g7,(DS (a:=⟨b0,1,none⟩) (h1 b0 g4 g2 g3)).trans g8⟩
     . exact .inr g
theorem Mh (c:UInt8):IK c 3=isSp c:=by
 unfold IK isSp
 generalize (c == 10)=a
 generalize (c == 92)=b
 generalize (c == 34)=d
 revert a b d
 decide
theorem Part.rep {w:World}{B X Y:Nat}(h:Part w B X Y 3)(hX:B<=X)(hY:B<=Y):Lv B w X:=by
 obtain⟨⟨arr,hrow,hrz,hr256,hrc⟩,ys,hys,hyz,hyj⟩:=h
 refine⟨Y,3,hX,hY,?_,fun m hm=>?_,fun c=>?_⟩
 . unfold World.cell?
   simp only [hrow]
   simpa using hr256
 . unfold World.cell?
   simp only [hys]
   simpa using hyj m hm
 . rcases hrc c with⟨g0,b,cp,x,y,g1,g2,g3,g4,g5,g6,g7,g8⟩|⟨g0,g1⟩
   . refine .inl ⟨by rw [<- Mh];exact g0,⟨b,0,none⟩,cp,x,y,g1,?_,g6,g7,g8⟩
     unfold World.cell?
     simp only [hrow]
     simpa using g5
   . refine .inr ⟨by rw [<- Mh];exact g0,?_⟩
     unfold World.cell?
     simp only [hrow]
     simpa using g1
theorem Abo:(Tryz.prog.info? 9).map (fun i=>(i.zero,i.size,i.bytes))=some (some (.string ⟨#[]⟩),1,16):=by kernel_rfl
theorem Aad (g A o cap:Nat)(hg:w.cell? ⟨g,4,none⟩=some (.slice (some ⟨A,o,none⟩) 6 cap))(h0:w.cell? ⟨A,o,none⟩=some (.string ⟨#[34]⟩))(h1:w.cell? ⟨A,o+1,none⟩=some (.string ⟨#[92,34]⟩))(h2:w.cell? ⟨A,o+2,none⟩=some (.string ⟨#[92]⟩))
 (h3:w.cell? ⟨A,o+3,none⟩=some (.string ⟨#[92,92]⟩)) (h4:w.cell? ⟨A,o+4,none⟩=some (.string ⟨#[10]⟩)) (h5:w.cell? ⟨A,o+5,none⟩=some (.string ⟨#[92,110]⟩)) :
 P3 Lv w g:=by
 unfold P3
 go_enter Tryz.func161,Tryz.ntmps161
 go_wp2
 go_loop [4,5] (fun a b=>(a=.bool true/\b=.int .i64 0)∨(a=.bool false/\(b=.int .i64 2∨b=.int .i64 4∨b=.int .i64 6))) (fun _ b=>10-(intOf b).toNat)
 case atStart=>exact .inl ⟨rfl,rfl⟩
 case round =>
  rcases hrel with⟨rfl,rfl⟩|⟨rfl,rfl|rfl|rfl⟩
  . go_wp2
    go_round
    case rel=>exact .inr ⟨rfl,.inl rfl⟩
    case measure=>simp [intOf]
  . go_wp2
    go_round
    case rel=>exact .inr ⟨rfl,.inr (.inl rfl)⟩
    case measure=>simp [intOf]
  . go_wp2
    go_round
    case rel=>exact .inr ⟨rfl,.inr (.inr rfl)⟩
    case measure=>simp [intOf]
  . obtain⟨i0,hi0,hz0,hz1,hz2⟩:=info_parts Abo
    have hmk:=run_makeSlice (P:=Tryz.prog) w 143 9 i0 (.string ⟨#[]⟩) Tryz.underlying143 hi0 hz0 .i64 .i64 0 3 (by omega) (by omega) (by rw [hz1];decide) (by rw [hz2];decide) (by omega)
    obtain⟨W1,hW1⟩:∃ W1,W1=w.alloc (.cells (madeCells (Value.string ⟨#[]⟩).cells ((3:Int).toNat*i0.size)) 9):=⟨_,rfl⟩
    rw [<- hW1] at hmk
    have hb1:Below w.heap.size w W1:=by rw [hW1];exact (Below.refl _ _).alloc (Nat.le_refl _) _
    have hB1:W1.heap[w.heap.size]?=some (.cells #[.string ⟨#[]⟩,.string ⟨#[]⟩,.string ⟨#[]⟩] 9 (0,0)):=by
     have e3:madeCells (Value.string ⟨#[]⟩).cells ((3:Int).toNat*1) = #[.string ⟨#[]⟩,.string ⟨#[]⟩,.string ⟨#[]⟩]:=by kernel_rfl
     rw [hW1,hz1,e3];exact heap_alloc_new w (.cells _ 9)
    have hs1:W1.heap.size=w.heap.size+1:=by rw [hW1];simp
    have hst:=run_storeCells_at (P:=Tryz.prog) W1.heap.size 0 271 (Tryz.zeroCells271.toList.set 256 (.slice (some ⟨w.heap.size,0,none⟩) 0 3)) 0 Tryz.zeroCells271 (W1.alloc (.cells Tryz.zeroCells271 271)) (heap_alloc_new W1 _) (by rw [QD];simp)
     (by
      rw [QD]
      intro v hv
      rcases List.mem_or_eq_of_mem_set hv with h|h
      . rw [List.eq_of_mem_replicate h];rfl
      . rw [h];rfl)
    obtain⟨W2,hW2⟩:∃ W2,(W1.alloc (.cells Tryz.zeroCells271 271)).setRow W1.heap.size (Tryz.zeroCells271.toList.take (0+0)++Tryz.zeroCells271.toList.set 256 (.slice (some ⟨w.heap.size,0,none⟩) 0 3)++Tryz.zeroCells271.toList.drop (0+0+(Tryz.zeroCells271.toList.set 256 (.slice (some ⟨w.heap.size,0,none⟩) 0 3)).length)).toArray=W2:=⟨_,rfl⟩
    rw [hW2] at hst
    have hb2:Below w.heap.size w W2:=by rw [<- hW2];exact below_setRow (hb1.trans ((Below.refl _ _).alloc (by rw [hs1];omega) _)) (by rw [hs1];omega) _
    have hp0:Part W2 w.heap.size (w.heap.size+1) w.heap.size 0:=by
     refine⟨⟨((List.replicate 257 (Value.slice none 0 0)).set 256 (.slice (some ⟨w.heap.size,0,none⟩) 0 3)).toArray,?_,by simp,by simp,fun c=>.inr ⟨by simp [IK],?_⟩⟩,⟨#[.string ⟨#[]⟩,.string ⟨#[]⟩,.string ⟨#[]⟩],?_,rfl,fun j hj=>by omega⟩⟩
     . rw [<- hW2,<- hs1,L7 (heap_alloc_new W1 _),QD]
       simp
     . have:=c.toNat_lt
       rw [List.getElem?_toArray,List.getElem?_set_ne (by omega),List.getElem?_replicate,if_pos (by omega)]
     . rw [<- hW2,setRow_other _ _ _ _ (by rw [hs1];omega)]
       exact (Below.heap_alloc W1 _ _ (by rw [hs1];omega)).trans hB1
    have HZ1:=Lib.hid hs1
    have HP0:=Lib.hid hp0
    have HB2:=Lib.hid hb2
    clear hW1 hs1 hW2 hp0 hb2 hb1 hB1
    go_wp2_with fail
    generalize hX:W1.heap.size=X
    rw [hX] at HZ1
    have HP1:Hid (Part W2 w.heap.size X w.heap.size 0):=by rw [HZ1.out];exact HP0
    clear hX HP0
    go_loopw [12] (fun v wr=>∃ m:Nat,m<=3/\v=.int .i64 (4-2*(m:Int))/\Below w.heap.size w wr/\Part wr w.heap.size X w.heap.size m) (fun v _=>(intOf v+2).toNat)
    case atStart=>exact⟨0,Nat.zero_le _,rfl,HB2.out,HP1.out⟩
    case round =>
     obtain⟨m,hm,rfl,hbw,hpt⟩:=hrel
     clear HB2 HP1 hmk hst
     have hX0:∀ a v,w.cell? a=some v->a.block<w.heap.size:=fun a v h=>World.block_lt_of_cell? _ _ h
     by_cases hlt:m<3
     . obtain⟨i,c,x,y,hi,hi6,hc,hn,hcs,hq⟩:∃ i c x y,4-2*(m:Int)=((i:Nat):Int)/\i+1<6/\w.cell? ⟨A,o+i,none⟩=some (.string ⟨#[c]⟩)/\w.cell? ⟨A,o+(i+1),none⟩=some (.string ⟨#[x,y]⟩)/\c=MM m/\Hu c=[x,y]:=by
        match m,hlt with
        |0,_=>exact⟨4,10,92,110,by omega,by omega,h4,h5,rfl,rfl⟩
        |1,_=>exact⟨2,92,92,92,by omega,by omega,h2,h3,rfl,rfl⟩
        |2,_=>exact⟨0,34,92,34,by omega,by omega,h0,h1,rfl,rfl⟩
       have hcw:=(hbw.cell (hX0 _ _ hc)).trans hc
       have hnw:=(hbw.cell (hX0 _ _ hn)).trans hn
       rw [hi]
       have HP:=Lib.hid hpt
       obtain⟨⟨arr,hrow,hrz,hr256,hrc⟩,ys,hys,hyz,hyj⟩:=hpt
       have hcn:=c.toNat_lt
       have hac:arr[c.toNat]?=some (.slice none 0 0):=by
        rcases hrc c with⟨hd,_⟩|⟨_,h⟩
        . exfalso
          rw [hcs] at hd
          match m,hlt with
          |0,_=>cases hd
          |1,_=>cases hd
          |2,_=>cases hd
        . exact h
       clear h0 h1 h2 h3 h4 h5 hc hn hX0
       have b1:(0:Int)<=(i:Int):=by omega
       have b2:(i:Int)<6:=by omega
       have b3:(i:Int)+1<6:=by omega
       have b4:(0:Int)<=(c.toNat:Int):=by omega
       have b5:(c.toNat:Int)<256:=by omega
       have hx:(({ data:=#[c] }:ByteArray)[0]'(Nat.one_pos))=c:=rfl
       have HR:=Lib.hid hrow
       have HC:=Lib.hid hrc
       have HY:=Lib.hid hys
       have HJ:=Lib.hid hyj
       have HB:=Lib.hid hbw
       have hXc:wr.cell? ⟨X,c.toNat,none⟩=some (.slice none 0 0):=by
        unfold World.cell?
        simp only [hrow]
        simpa using hac
       have hXl:wr.cell? ⟨X,256,none⟩=some (.slice (some ⟨w.heap.size,0,none⟩) m 3):=by
        unfold World.cell?
        simp only [hrow]
        simpa using hr256
       have HS:=Lib.hid hcs
       have HQ:=Lib.hid hq
       have HI:=Lib.hid hi
       have heq:∀ W:World,(binOp .eql 146 (.slice none 0 0) (.slice none 0 0)).run Tryz.prog W=.ok (.bool true) W:=fun W=>by kernel_rfl
       clear hrow hrc hys hyj hbw hcs hq hi hr256
       have hXs:X<wr.heap.size:=(Array.getElem?_eq_some_iff.1 HR.out).1
       have hYs:w.heap.size<wr.heap.size:=(Array.getElem?_eq_some_iff.1 HY.out).1
       have hXY:X≠w.heap.size:=fun e=>by
        have h1:=HR.out
        rw [e,HY.out] at h1
        cases h1
       obtain⟨Wa,hWa⟩:∃ Wa,wr.alloc (.cells #[.int .u8 (c.toNat:Int)] 5)=Wa:=⟨_,rfl⟩
       have hstr:=R1 (w:=Wa) (B:=wr.heap.size) (q:=[c]) (N:=1) (by rw [<- hWa];exact heap_alloc_new wr _) rfl
       have has:Wa.heap.size=wr.heap.size+1:=by rw [<- hWa];simp
       have hao:∀ k,k<wr.heap.size->Wa.heap[k]?=wr.heap[k]?:=fun k hk=>by rw [<- hWa];exact Below.heap_alloc wr _ k hk
       obtain⟨Wb,hWb⟩:∃ Wb,Wa.alloc (.cells #[.string ⟨⟨[c]⟩⟩] 9)=Wb:=⟨_,rfl⟩
       have hbn:Wb.heap[Wa.heap.size]?=some (.cells #[.string ⟨⟨[c]⟩⟩] 9 (0,0)):=by rw [<- hWb];exact heap_alloc_new Wa _
       have hbs:Wb.heap.size=wr.heap.size+2:=by rw [<- hWb];simp [has]
       have hbo:∀ k,k<wr.heap.size->Wb.heap[k]?=wr.heap[k]?:=fun k hk=>by rw [<- hWb,Below.heap_alloc Wa _ k (by omega)];exact hao k hk
       have hbc0:Wb.cell? ⟨Wa.heap.size,0,none⟩=some (.string ⟨⟨[c]⟩⟩):=by unfold World.cell?;simp only [hbn];simp
       have hyb:=(hbo _ hYs).trans HY.out
       obtain⟨v0,hbY⟩:∃ v,Wb.cell? ⟨w.heap.size,m,none⟩=some v:=⟨ys[m]'(by omega),by unfold World.cell?;simp only [hyb];simp⟩
       have hbF:Wb.frozen? ⟨w.heap.size,m,none⟩=false:=by simp only [World.frozen?,hyb];simp
       obtain⟨Wc,hWc⟩:∃ Wc,Wb.setCell ⟨w.heap.size,m,none⟩ (.string ⟨⟨[c]⟩⟩)=Wc:=⟨_,rfl⟩
       have hcs:Wc.heap.size=wr.heap.size+2:=by rw [<- hWc];simp [hbs]
       have hco:∀ k,k<wr.heap.size->k≠w.heap.size->Wc.heap[k]?=wr.heap[k]?:=fun k hk hn=>by rw [<- hWc,Below.heap_setCell _ _ _ k hn];exact hbo k hk
       have hcy:∃ zs:Array Value,Wc.heap[w.heap.size]?=some (.cells zs 9 (0,0))/\zs.size=3/\∀ j,j<m+1->zs[j]?=some (.string ⟨⟨[MM j]⟩⟩):=by
        refine⟨ys.setIfInBounds m (.string ⟨⟨[c]⟩⟩),by rw [<- hWc];exact heap_setCell_same _ _ _ _ _ _ hyb,by simp [hyz],fun j hj=>?_⟩
        by_cases hjm:j<m
        . rw [Array.getElem?_setIfInBounds_ne (by omega)];exact HJ.out j hjm
        . obtain rfl:j=m:=by omega
          rw [Array.getElem?_setIfInBounds_self_of_lt (by omega),HS.out]
       have hbc:Below w.heap.size w Wc:=by
        rw [<- hWc,<- hWb,<- hWa]
        exact ((HB.out.alloc (by omega) _).alloc (by simp;omega) _).setCell (Nat.le_refl _) _
       have hcc:=hco X hXs hXY
       have hXl2:Wc.cell? ⟨X,256,none⟩=some (.slice (some ⟨w.heap.size,0,none⟩) m 3):=(DS hcc).trans hXl
       have hXc2:Wc.cell? ⟨X,c.toNat,none⟩=some (.slice none 0 0):=(DS hcc).trans hXc
       have hfz:∀ i,Wc.frozen? ⟨X,i,none⟩=false:=fun i=>by
        simp only [World.frozen?,hcc,HR.out];simp
       obtain⟨Wd,hWd⟩:∃ Wd,Wc.setCell ⟨X,256,none⟩ (.slice (some ⟨w.heap.size,0,none⟩) (m+1) 3)=Wd:=⟨_,rfl⟩
       have hds:Wd.heap.size=wr.heap.size+2:=by rw [<- hWd];simp [hcs]
       have hdX:Wd.heap[X]?=some (.cells (arr.setIfInBounds 256 (.slice (some ⟨w.heap.size,0,none⟩) (m+1) 3)) 271 (0,0)):=by rw [<- hWd];exact heap_setCell_same _ _ _ _ _ _ (hcc.trans HR.out)
       have hdo:∀ k,k≠X->Wd.heap[k]?=Wc.heap[k]?:=fun k hk=>by rw [<- hWd];exact Below.heap_setCell _ _ _ k hk
       have hcv0:=run_bytes_of_string (P:=Tryz.prog) Wd 9 146 5 ⟨#[x,y]⟩ Tryz.underlying9 Tryz.underlying146 Tryz.underlying5
       obtain⟨cp,hcp⟩:∃ cp,grownCap Wd (⟨#[x,y]⟩:ByteArray).size 0 5=cp:=⟨_,rfl⟩
       rw [hcp] at hcv0
       obtain⟨We,hWe⟩:∃ We,Wd.drew.alloc (.cells (bytesRow ⟨#[x,y]⟩ cp) 5 ((bytesRow ⟨#[x,y]⟩ cp).size,(bytesRow ⟨#[x,y]⟩ cp).size+1))=We:=⟨_,rfl⟩
       rw [hWe] at hcv0
       have hcv:(convert 9 146 (.string ⟨#[x,y]⟩)).run Tryz.prog Wd=.ok (.slice (some ⟨Wd.heap.size,0,none⟩) 2 cp) We:=hcv0
       have hen:We.heap[Wd.heap.size]?=some (.cells (bytesRow ⟨#[x,y]⟩ cp) 5 ((bytesRow ⟨#[x,y]⟩ cp).size,(bytesRow ⟨#[x,y]⟩ cp).size+1)):=by rw [<- hWe];exact heap_alloc_new Wd.drew _
       have hes:We.heap.size=wr.heap.size+3:=by rw [<- hWe];simp [hds]
       have heo:∀ k,k<Wd.heap.size->We.heap[k]?=Wd.heap[k]?:=fun k hk=>by rw [<- hWe];exact Below.heap_alloc Wd.drew _ k hk
       have heX:=(heo X (by omega)).trans hdX
       have heXc:We.cell? ⟨X,c.toNat,none⟩=some (.slice none 0 0):=by
        unfold World.cell?
        simp only [heX]
        simpa [Array.getElem?_setIfInBounds_ne (show 256≠c.toNat by omega)] using hac
       have heXf:We.frozen? ⟨X,c.toNat,none⟩=false:=by simp only [World.frozen?,heX];simp
       have hbe:Below w.heap.size w We:=by
        rw [<- hWe,<- hWd]
        exact ((hbc.setCell (show w.heap.size<=X by have:=HZ1.out;omega) _).trans ((RF.one _).below _)).alloc (by simp [hcs];omega) _
       have hfin:Part (We.setCell ⟨X,c.toNat,none⟩ (.slice (some ⟨Wd.heap.size,0,none⟩) 2 cp)) w.heap.size X w.heap.size (m+1):=by
        refine V4 HP.out hlt HS.out HQ.out (fun k hk n1 n2=>?_) (fun ar har=>?_) ?_ (b:=Wd.heap.size) (cp:=cp) (by omega) (by omega) (by simp;omega) ?_ ?_
        . rw [Below.heap_setCell _ _ _ k n1,heo k (by omega),hdo k n1];exact hco k hk n2
        . rw [HR.out] at har;cases har
          exact heap_setCell_same _ _ _ _ _ _ heX
        . obtain⟨zs,z1,z2⟩:=hcy
          refine⟨zs,?_,z2⟩
          rw [Below.heap_setCell _ _ _ _ hXY.symm,heo _ (by omega),hdo _ hXY.symm];exact z1
        . rw [World.cell?_setCell_other _ ⟨X,c.toNat,none⟩ ⟨Wd.heap.size,0,none⟩ _ (by simp)]
          unfold World.cell?
          simp only [hen]
          simpa using bytesRow_at ⟨#[x,y]⟩ cp 0 (show 0<2 by omega)
        . rw [World.cell?_setCell_other _ ⟨X,c.toNat,none⟩ ⟨Wd.heap.size,1,none⟩ _ (by simp)]
          unfold World.cell?
          simp only [hen]
          simpa using bytesRow_at ⟨#[x,y]⟩ cp 1 (show 1<2 by omega)
       have HFIN:=Lib.hid hfin
       have HBE:=Lib.hid hbe
       have hXw:w.heap.size<=X:=by
        have:=HZ1.out;omega
       have HXW:=Lib.hid hXw
       clear hcv0 hWe hen hes heo heX hbe hfin hcp hds hdX hdo hXw hac
       have HAS:=Lib.hid has
       have HAO:=Lib.hid hao
       have HBN:=Lib.hid hbn
       have HBS:=Lib.hid hbs
       have HBO:=Lib.hid hbo
       have HCS:=Lib.hid hcs
       have HCO:=Lib.hid hco
       have HCY:=Lib.hid hcy
       have HBC:=Lib.hid hbc
       have HCC:=Lib.hid hcc
       have HYZ:=Lib.hid hyz
       have HRZ:=Lib.hid hrz
       have HYB:=Lib.hid hyb
       have hm1:m+1<=3:=hlt
       clear has hao hbn hbs hbo hcs hco hcy hbc hcc hyz hrz hXs hYs hyb
       go_wp2_with fail
       go_roundw
       case rel=>exact⟨m+1,hm1,by have:=HI.out;go_num,HBE.out.setCell HXW.out _,HFIN.out⟩
       case measure=>simp [intOf];omega
     . obtain rfl:m=3:=by omega
       have HBW:=Lib.hid hbw
       have HRP:=Lib.hid (hpt.rep (by have:=HZ1.out;omega) (Nat.le_refl _))
       clear hpt hbw
       go_wp2_with fail
       go_ret
       exact⟨X,rfl,HBW.out,HRP.out⟩
end Go.Proofs.YtkcfmlfkfagejaaGreatDoor
namespace Go.Proofs.YtkcfmlfkfagejaaGreatDoor
open Go.RowKit Go.Q Go.Lx Go.Vl
set_option maxRecDepth 100000
set_option maxHeartbeats 2000000
theorem V.litEq {w:World}{U:Nat->Nat->Prop}{φ:List Nat}{v u:Value}(h:V w U φ (.lit v) u):u=v:=by cases h;rfl
theorem Acj:Rep:=by
 intro s hs
 refine⟨[.undef,.undef,.undef,.undef,.undef],rfl,?_⟩
 intro w G vs hst hvs hargs hΩ hgl
 have hl:G.φ.length=1:=hst.len
 obtain⟨g,hφ⟩:∃ g,G.φ=[g]:=by
  match hG:G.φ,hl with
  | [g],_=>exact⟨g,rfl⟩
 have hk:G.φ[0]?=some g:=by rw [hφ];rfl
 obtain⟨⟨ob,arr,hblk,⟨hlay,hsz⟩,hcs⟩,hnoU⟩:=hst.blk 0 g LC hk rfl
 obtain⟨T,rfl⟩:=hlay.cells (fun kvs e=>by simp [LC] at e)
 have hg:g<w.heap.size:=(Array.getElem?_eq_some_iff.1 hblk).1
 have h5:arr.size=5:=hsz
 have hcell:∀ j v,arr[j]?=some v->w.cell? ⟨g,j,none⟩=some v:=fun j v hj=>by
  unfold World.cell?
  simp only [hblk]
  simpa using hj
 obtain⟨a0,p0,o0,v0,_⟩:=hcs 0 _ rfl
 obtain⟨a1,p1,o1,v1,_⟩:=hcs 1 _ rfl
 obtain⟨a2,p2,o2,v2,_⟩:=hcs 2 _ rfl
 obtain⟨a3,p3,o3,v3,_⟩:=hcs 3 _ rfl
 obtain⟨a4,p4,o4,v4,_⟩:=hcs 4 _ rfl
 have e0:=V.litEq v0
 have e1:=V.litEq v1
 subst e0 e1
 have hone:∀ (j:Nat) (v:Value),arr[j]?=some v->v.oneCell'=true:=fun j v hj=>by
  have hj5:j<5:=by rw [<- h5];exact (Array.getElem?_eq_some_iff.1 hj).1
  match j,hj5 with
  |0,_=>rw [p0] at hj;cases hj;exact o0
  |1,_=>rw [p1] at hj;cases hj;exact o1
  |2,_=>rw [p2] at hj;cases hj;exact o2
  |3,_=>rw [p3] at hj;cases hj;exact o3
  |4,_=>rw [p4] at hj;cases hj;exact o4
 have hu:RC w g:=⟨hg,hcell _ _ p0,hcell _ _ p1,⟨_,hcell _ _ p3⟩,⟨_,hcell _ _ p4⟩,fun i=>by simp only [World.frozen?,hblk];simp,⟨arr,T,hblk,h5⟩⟩
 have hb:P3 Lv (w.setCell ⟨g,1,none⟩ (.int .i32 1)) g:=by
  cases v4 with
  |sl _ _ _ b o sz cap us hc hm hs2 hU hw h1 hv hf hgr =>
   have hz:sz=1:=(hs2 0 (by decide)).symm
   subst hz
   have hne:b≠g:=fun e=>by
    have:=hU 0 0 (by decide) (by omega)
    rw [e] at this
    exact hnoU _ this
   have hcl:∀ i,(h:i<6)->∀ v,(XU[i]'h)[0]?=some (.lit v)->(w.setCell ⟨g,1,none⟩ (.int .i32 1)).cell? ⟨b,o+i,none⟩=some v:=fun i h v hi=>by
    rw [World.cell?_setCell_other _ ⟨g,1,none⟩ ⟨b,o+i,none⟩ _ (fun e=>hne (congrArg Addr.block e).symm)]
    have h0:0<(XU[i]'h).length:=by rw [hs2 i h];omega
    have hvv:=hv i h 0 h0
    have h3:(XU[i]'h)[0]=.lit v:=by
     rw [List.getElem?_eq_getElem h0] at hi
     exact Ah hi
    rw [h3] at hvv
    have h2:=hw i 0 h (by omega)
    rw [V.litEq hvv] at h2
    simpa using h2
   refine Aad g b o cap ?_ (hcl 0 (by decide) _ rfl) (hcl 1 (by decide) _ rfl) (hcl 2 (by decide) _ rfl) (hcl 3 (by decide) _ rfl) (hcl 4 (by decide) _ rfl) (hcl 5 (by decide) _ rfl)
   rw [World.cell?_setCell_other _ ⟨g,1,none⟩ ⟨g,4,none⟩ _ (by simp)]
   exact hcell _ _ p4
 have hvs2:vs = #[.pointer (some ⟨g,0,none⟩),.string ⟨⟨s⟩⟩]:=by
  obtain⟨l⟩:=vs
  match l,hvs with
  | [a,b],_ =>
   have q0:V w G.U G.φ (.ptr 0 0) a:=hargs 0 (show 0<2 by omega)
   have q1:V w G.U G.φ (.lit (.string ⟨⟨s⟩⟩)) b:=hargs 1 (show 1<2 by omega)
   rw [V.litEq q1]
   cases q0 with
   |ptr _ _ _ k hk2 =>
    rw [hφ] at hk2
    cases hk2
    rfl
 rw [hvs2]
 refine (Vy hu hb ⟨⟨s⟩⟩ hs).mono ?_
 rintro e w' ⟨rfl,X,w1,hb1,hbv⟩
 refine⟨.ret (.lit (.string ⟨⟨Lx.quoted s⟩⟩)),[[.undef,.undef,.undef,.undef,.undef]],G,⟨rfl,rfl⟩,⟨_,rfl,.lit _ _,trivial⟩,?_,?_⟩
 . have hk0:=hblk
   have hw1:=(hb1.block g hg).trans (heap_setCell_same w g 1 _ _ _ hblk)
   have ho:=Qs w1 g X hw1
   have hw':w'.heap[g]?=_:=(hbv.block g (by have:=hb1.size;simp at this;omega)).trans ho
   have hsz':w.heap.size<=w'.heap.size:=by
    have a:=hb1.size
    have b:=hbv.size
    rw [LH] at b
    simp at a
    omega
   refine⟨hφ ▸ rfl,hst.nodup,fun k b cs hk1 hk2=>?_,fun b i hu=>Nat.lt_of_lt_of_le (hst.ub b i hu) hsz',fun b ho=>⟨Nat.lt_of_lt_of_le (hst.ob b ho).1 hsz',(hst.ob b ho).2⟩⟩
   match k,hk2 with
   |0,hk2 =>
    cases hk2
    rw [hk] at hk1
    cases hk1
    refine⟨⟨_,_,hw',⟨.inl ⟨⟨T,rfl⟩,fun p hm=>by simp at hm;subst hm;rfl⟩,by simp [h5]⟩,fun j c hj=>?_⟩,hnoU⟩
    have hj5:j<5:=(List.getElem?_eq_some_iff.1 hj).1
    have hcu:c=.undef:=by
     match j,hj5 with
     |0,_=>cases hj;rfl
     |1,_=>cases hj;rfl
     |2,_=>cases hj;rfl
     |3,_=>cases hj;rfl
     |4,_=>cases hj;rfl
    subst hcu
    have hv:∃ v:Value,((((((arr.setIfInBounds 1 (.int .i32 1)).setIfInBounds 3 (.iface 272 (.pointer (some ⟨X,0,none⟩)))).setIfInBounds 4 (.slice none 0 0)).setIfInBounds 0 (.int .u32 1)).setIfInBounds 1 (.int .i32 0)))[j]?=some v/\v.oneCell'=true:=by
     simp only [Array.getElem?_setIfInBounds,Array.size_setIfInBounds,h5]
     match j,hj5 with
     |0,_=>exact⟨_,rfl,rfl⟩
     |1,_=>exact⟨_,rfl,rfl⟩
     |2,_=>exact⟨a2,p2,o2⟩
     |3,_=>exact⟨_,rfl,rfl⟩
     |4,_=>exact⟨_,rfl,rfl⟩
    obtain⟨v,hv1,hv2⟩:=hv
    exact⟨v,hv1,hv2,.undef _ _,trivial⟩
 . have ho:=S0 w1 g X
   have hz:(w.setCell ⟨g,1,none⟩ (.int .i32 1)).heap.size=w.heap.size:=by simp
   have hs1:=hb1.size
   rw [hz] at hs1
   have hsame:∀ k,k<w.heap.size->k≠g->w'.heap[k]?=w.heap[k]?:=fun k hk hn=>by
    rw [hbv.block k (by omega),OA w1 g X k hn,hb1.block k hk]
    exact Below.heap_setCell _ _ _ k hn
   refine⟨hbv.os.trans (ho.os.trans (hb1.os.trans rfl)),hbv.tape.trans (ho.tape.trans (hb1.tape.trans rfl)),hbv.output.trans (ho.output.trans (hb1.output.trans rfl)),?_,fun k hk hn _=>hsame k hk (by rw [hφ] at hn;simpa using hn),fun b i hu=>⟨hu,?_⟩,fun _ _ h=>.inl h,fun _ h=>.inr h,[],by simp,by simp⟩
   . have b:=hbv.size
     rw [LH] at b
     omega
   . exact Kp.of (hsame b (hst.ub b i hu) (fun e=>hnoU i (e ▸ hu)))
end Go.Proofs.YtkcfmlfkfagejaaGreatDoor
namespace Go.Proofs.YtkcfmlfkfagejaaGreatDoor
open Go.RowKit Go.Q Go.Vl Go.Sp Go.Lx
theorem Vz (src:ByteArray):∃ p e:Nat,((Ms src).2=⟨(p:Int),(e:Int)⟩)/\∀ rows' p' e',XD src rows' p' e'->rows'=(Ms src).1.map C3/\p'=p/\e'=e:=by
 unfold Ms
 by_cases h:65536<src.size
 . rw [if_pos h]
   refine⟨0,2,rfl,fun rows' p' e' h'=>?_⟩
   rcases h' with⟨_,h1,h2,h3⟩|⟨h1,_⟩
   . exact⟨h1,h2,h3⟩
   . omega
 . rw [if_neg h]
   cases ht:Lx.tokens src.data.toList with
   |ok ts =>
    refine⟨0,0,rfl,fun rows' p' e' h'=>?_⟩
    have hg:Lx.Good src.size (skip false (bl src)) ts:=RU ht
    rcases h' with⟨h1,_⟩|⟨_,⟨l',hg',h2,h3,h4⟩|⟨hb',_⟩⟩
    . omega
    . rw [hg'.unique hg] at h2
      refine⟨?_,h3,h4⟩
      rw [h2,List.map_map];rfl
    . exact (hg.notBad hb').elim
   |error x =>
    obtain⟨p,e⟩:=x
    refine⟨p,e,rfl,fun rows' p' e' h'=>?_⟩
    have hb:Lx.Bad src.size (skip false (bl src)) p e:=TC ht
    rcases h' with⟨h1,_⟩|⟨_,⟨l',hg',_⟩|⟨hb',h2⟩⟩
    . omega
    . exact (hg'.notBad hb).elim
    . have:=hb'.unique hb;exact⟨h2,this.1,this.2⟩
theorem Wy (src:ByteArray)(t:List Aq×Av)(h:Qz src=some t):Cd Tryz.prog 116 [tP src] (.tup [hP t.1 C3,.agg [iP t.2.At,iP t.2.E]]):=by
 obtain rfl:=Ah h
 obtain⟨p,e,h1,h2⟩:=Vz src
 rw [h1]
 exact fun σ=>XJ src _ p e h2
def Ze (t:Aq):RT:=⟨t.Kind,t.At,t.S.data.toList,t.N⟩
theorem Zb (l:List Aq)(t:ByteArray)(h:Re l=some t):Cd Tryz.prog 66 [hP l C3] (tP t):=by
 unfold Re at h
 split at h
 . rename_i hok
   obtain rfl:=Ah h
   obtain⟨h1,h2,h3,h4⟩:=hok
   have e1:l.map C3=(l.map Ze).map UB:=by rw [List.map_map];rfl
   have e2:Fz (l.map Ze)=l.flatMap YG:=by unfold Fz;rw [List.flatMap_map];rfl
   intro σ
   have hp:=Zc (σ:=σ) (l.map Ze) (by simpa using h1) (fun x hx=>by
    obtain⟨y,hy,rfl⟩:=List.mem_map.1 hx
    exact h2 y hy) (by rw [e2];exact h3) (fun x hx=>by
    obtain⟨y,hy,rfl⟩:=List.mem_map.1 hx
    rcases h4 y hy with h5|h5
    . exact .inl h5
    . exact .inr ⟨Acj,h5⟩) .shared
   rw [<- e1,e2] at hp
   exact hp
 . cases h
end Go.Proofs.YtkcfmlfkfagejaaGreatDoor
