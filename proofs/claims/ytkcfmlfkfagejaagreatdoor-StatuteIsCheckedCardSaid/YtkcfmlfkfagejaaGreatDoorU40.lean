/-
  strings.NewReplacer, walked in plain values. The reference's quoted and Decimal, walked in plain values. lexer.Text has a statement that is walked in another order.
-/
import Derived.Test.YtkcfmlfkfagejaaGreatDoorU25
import Derived.Test.YtkcfmlfkfagejaaGreatDoorU39
set_option linter.unusedVariables false
set_option linter.unusedSimpArgs false
namespace Go.Proofs.YtkcfmlfkfagejaaGreatDoor
open Go.RowKit Go.Q Go.Lx Go.Vl
set_option maxRecDepth 100000
theorem nw0:Hc Tryz.prog 143=false:=by kernel_rfl
theorem nw1:TJ Tryz.prog 143=some (1,16):=by kernel_rfl
theorem nw2:Vo Tryz.prog 143=some (1,16):=by kernel_rfl
theorem nw3:Im Tryz.prog 211=some [.lit (.int .u32 0),.lit (.int .i32 0),.lit (.int .u32 0),.lit .nilIface,.sl [] .nil]:=by kernel_rfl
theorem nw4:(HA Tryz.prog 211).isSome=true:=by kernel_rfl
theorem nw5:LN Tryz.prog 211 0=some (0,3):=by kernel_rfl
theorem nw6:LN Tryz.prog 211 1=some (3,1):=by kernel_rfl
theorem nw7:LN Tryz.prog 211 2=some (4,1):=by kernel_rfl
attribute [go_sem] nw0 nw1 nw2 nw3 nw4 nw5 nw6 nw7
def ZM:List (List PV):=[[.lit (.string ⟨#[34]⟩)],[.lit (.string ⟨#[92,34]⟩)],[.lit (.string ⟨#[92]⟩)],[.lit (.string ⟨#[92,92]⟩)],[.lit (.string ⟨#[10]⟩)],[.lit (.string ⟨#[92,110]⟩)]]
def NH:List PV:=[.lit (.int .u32 0),.lit (.int .i32 0),.lit (.int .u32 0),.lit .nilIface,.sl ZM .shared]
theorem Ab2:VC Tryz.prog 113 [.sl ZM .shared] [] fun x σ'=>x=.ret (.ptr 0 0)/\σ'=[NH]:=by
 unfold NH
 have hl:ZM.length=6:=rfl
 have h1:∀ x∈ZM,x.length=1:=by simp [ZM]
 obtain⟨S,hS⟩:∃ S,ZM=S:=⟨_,rfl⟩
 rw [hS] at hl h1 ⊢
 clear hS
 have e1:(((S.length:Nat):Int).tmod 2 == 1)=false:=by rw [hl];rfl
 have e2:((2:Int) != 0)=true:=rfl
 refine VC.intro ⟨[0,2,6],[]⟩ Tryz.func113 rfl follows Aa6 (by rw [Tryz.ntmps113];exact Nat.le_of_ble_eq_true rfl) ?_;refine Ki ?_
 repeat (first|apply A3|apply Aq|apply Ax|apply A4|apply As|apply Ay rfl|apply Ar rfl|apply An rfl|(refine Ah rfl ?_;intro K' hK hP;simp only [go_sem,e1,e2];apply hK;(focus (simp only [go_sem];exact rfl));clear hK hP K'))
 refine Ah rfl ?_;intro K' hK hP;simp only [go_sem]
 refine⟨?_,?_⟩
 . rw [Bool.and_eq_true,Bool.and_eq_true]
   exact⟨decide_eq_true (by omega),rfl,List.all_eq_true.2 fun x hx=>beq_iff_eq.2 (h1 x hx)⟩
 apply hK;(focus (simp only [go_sem];exact rfl));clear hK hP K'
 repeat (first|apply A3|apply Aq|apply Ax|apply A4|apply As|apply Ay rfl|apply Ar rfl|apply An rfl|(refine Ah rfl ?_;intro K' hK hP;simp only [go_sem];apply hK;(focus (simp only [go_sem];exact rfl));clear hK hP K'))
 refine B8 ?_;simp only [go_sem,Tryz.results113]
end Go.Proofs.YtkcfmlfkfagejaaGreatDoor
namespace Go.Proofs.YtkcfmlfkfagejaaGreatDoor
open Go.RowKit Go.Q Go.Lx Go.Vl
set_option maxRecDepth 100000
set_option maxHeartbeats 1000000
variable {σ:List (List PV)}
def VA (c:UInt8):List UInt8:=if c=34∨c=92 then [92,c] else if c=10 then [92,110] else [c]
theorem U4 (c:UInt8):(VA c).length<=2:=by
 unfold VA
 split
 . exact Nat.le_refl _
 . split<;>simp
theorem NI:∀ l:List UInt8,(Lx.quoted l).length<=2*l.length
 | []=>Nat.le_refl _
 |c::l=>by
  have h1:=NI l
  have h2:=U4 c
  unfold Lx.quoted at h1 ⊢
  rw [List.flatMap_cons,List.length_append,List.length_cons]
  unfold VA at h2
  omega
theorem WG (a b:List UInt8):((⟨⟨a⟩⟩:ByteArray)++⟨⟨b⟩⟩)=⟨⟨a++b⟩⟩:=by
 apply ByteArray.ext
 rw [ByteArray.data_append]
 simp
end Go.Proofs.YtkcfmlfkfagejaaGreatDoor
namespace Go.Proofs.YtkcfmlfkfagejaaGreatDoor
open Go Go.Vl
theorem p0:Cq Tryz.prog 64=true:=by kernel_rfl
theorem p1:Cq Tryz.prog 65=true:=by kernel_rfl
theorem p2:Cq Tryz.prog 66=true:=by kernel_rfl
theorem p3:Cq Tryz.prog 67=true:=by kernel_rfl
theorem p4:WE Tryz.prog 4=true:=by kernel_rfl
attribute [go_sem] p0 p1 p2 p3 p4
theorem Aav:BR [(12,[0,3,4,1,2,5,6,7,8,9,10])] Tryz.f66.ntmps (Tryz.f66.body.getD .skip)=true:=by kernel_rfl
end Go.Proofs.YtkcfmlfkfagejaaGreatDoor
