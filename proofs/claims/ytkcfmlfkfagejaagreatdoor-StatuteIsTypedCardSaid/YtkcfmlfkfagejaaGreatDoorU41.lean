/-
  strings.NewReplacer, walked in plain values. lexer.Text has a statement that is walked in another order.
-/
import Derived.Test.YtkcfmlfkfagejaaGreatDoorU22
import Derived.Test.YtkcfmlfkfagejaaGreatDoorU39
namespace Go.Proofs.YtkcfmlfkfagejaaGreatDoor
open Go.RowKit Go.Q Go.Lx Go.Vl
set_option maxRecDepth 100000
theorem nw0:Ge Tryz.prog 143=false:=by kernel_rfl
theorem nw1:RO Tryz.prog 143=some (1,16):=by kernel_rfl
theorem nw2:Tt Tryz.prog 143=some (1,16):=by kernel_rfl
theorem nw3:Hv Tryz.prog 211=some [.lit (.int .u32 0),.lit (.int .i32 0),.lit (.int .u32 0),.lit .nilIface,.sl [] .nil]:=by kernel_rfl
theorem nw4:(GO Tryz.prog 211).isSome=true:=by kernel_rfl
theorem nw5:KY Tryz.prog 211 0=some (0,3):=by kernel_rfl
theorem nw6:KY Tryz.prog 211 1=some (3,1):=by kernel_rfl
theorem nw7:KY Tryz.prog 211 2=some (4,1):=by kernel_rfl
attribute [go_sem] nw0 nw1 nw2 nw3 nw4 nw5 nw6 nw7
def UX:List (List PV):=[[.lit (.string ⟨#[34]⟩)],[.lit (.string ⟨#[92,34]⟩)],[.lit (.string ⟨#[92]⟩)],[.lit (.string ⟨#[92,92]⟩)],[.lit (.string ⟨#[10]⟩)],[.lit (.string ⟨#[92,110]⟩)]]
def Kf:List PV:=[.lit (.int .u32 0),.lit (.int .i32 0),.lit (.int .u32 0),.lit .nilIface,.sl UX .shared]
theorem Yq:VC Tryz.prog 113 [.sl UX .shared] [] fun x σ'=>x=.ret (.ptr 0 0)/\σ'=[Kf]:=by
 unfold Kf
 have hl:UX.length=6:=rfl
 have h1:∀ x∈UX,x.length=1:=by simp [UX]
 obtain⟨S,hS⟩:∃ S,UX=S:=⟨_,rfl⟩
 rw [hS] at hl h1 ⊢
 clear hS
 have e1:(((S.length:Nat):Int).tmod 2 == 1)=false:=by rw [hl];rfl
 have e2:((2:Int) != 0)=true:=rfl
 refine VC.intro ⟨[0,2,6],[]⟩ Tryz.func113 rfl follows XI (by rw [Tryz.ntmps113];exact Nat.le_of_ble_eq_true rfl) ?_;refine Jz ?_
 repeat (first|apply Ax|apply Al|apply Aq|apply Ay|apply An|apply Ar rfl|apply Am rfl|apply Aj rfl|(refine Af rfl ?_;intro K' hK hP;simp only [go_sem,e1,e2];apply hK;(focus (simp only [go_sem];exact rfl));clear hK hP K'))
 refine Af rfl ?_;intro K' hK hP;simp only [go_sem]
 refine⟨?_,?_⟩
 . rw [Bool.and_eq_true,Bool.and_eq_true]
   exact⟨decide_eq_true (by omega),rfl,List.all_eq_true.2 fun x hx=>beq_iff_eq.2 (h1 x hx)⟩
 apply hK;(focus (simp only [go_sem];exact rfl));clear hK hP K'
 repeat (first|apply Ax|apply Al|apply Aq|apply Ay|apply An|apply Ar rfl|apply Am rfl|apply Aj rfl|(refine Af rfl ?_;intro K' hK hP;simp only [go_sem];apply hK;(focus (simp only [go_sem];exact rfl));clear hK hP K'))
 refine Bg ?_;simp only [go_sem,Tryz.results113]
end Go.Proofs.YtkcfmlfkfagejaaGreatDoor
namespace Go.Proofs.YtkcfmlfkfagejaaGreatDoor
open Go Go.Vl
theorem p0:BG Tryz.prog 64=true:=by kernel_rfl
theorem p1:BG Tryz.prog 65=true:=by kernel_rfl
theorem p2:BG Tryz.prog 66=true:=by kernel_rfl
theorem p3:BG Tryz.prog 67=true:=by kernel_rfl
theorem p4:Uy Tryz.prog 4=true:=by kernel_rfl
attribute [go_sem] p0 p1 p2 p3 p4
theorem X8:B0 [(12,[0,3,4,1,2,5,6,7,8,9,10])] Tryz.f66.ntmps (Tryz.f66.body.getD .skip)=true:=by kernel_rfl
end Go.Proofs.YtkcfmlfkfagejaaGreatDoor
