/-
  strings.NewReplacer, walked in plain values. lexer.Text has a statement that is walked in another order.
-/
import Derived.Test.YtkcfmlfkfagejaaGreatDoorU22
import Derived.Test.YtkcfmlfkfagejaaGreatDoorU39
set_option linter.unusedVariables false
set_option linter.unusedSimpArgs false
namespace Go.Proofs.YtkcfmlfkfagejaaGreatDoor
open Go.RowKit Go.Q Go.Lx Go.Vl
set_option maxRecDepth 100000
theorem nw0:Gf Tryz.prog 143=false:=by kernel_rfl
theorem nw1:Sb Tryz.prog 143=some (1,16):=by kernel_rfl
theorem nw2:T6 Tryz.prog 143=some (1,16):=by kernel_rfl
theorem nw3:Ht Tryz.prog 211=some [.lit (.int .u32 0),.lit (.int .i32 0),.lit (.int .u32 0),.lit .nilIface,.sl [] .nil]:=by kernel_rfl
theorem nw4:(GN Tryz.prog 211).isSome=true:=by kernel_rfl
theorem nw5:KY Tryz.prog 211 0=some (0,3):=by kernel_rfl
theorem nw6:KY Tryz.prog 211 1=some (3,1):=by kernel_rfl
theorem nw7:KY Tryz.prog 211 2=some (4,1):=by kernel_rfl
attribute [go_sem] nw0 nw1 nw2 nw3 nw4 nw5 nw6 nw7
def Vc:List (List PV):=[[.lit (.string ⟨#[34]⟩)],[.lit (.string ⟨#[92,34]⟩)],[.lit (.string ⟨#[92]⟩)],[.lit (.string ⟨#[92,92]⟩)],[.lit (.string ⟨#[10]⟩)],[.lit (.string ⟨#[92,110]⟩)]]
def Kg:List PV:=[.lit (.int .u32 0),.lit (.int .i32 0),.lit (.int .u32 0),.lit .nilIface,.sl Vc .shared]
theorem Yx:VC Tryz.prog 113 [.sl Vc .shared] [] fun x σ'=>x=.ret (.ptr 0 0)/\σ'=[Kg]:=by
 unfold Kg
 have hl:Vc.length=6:=rfl
 have h1:∀ x∈Vc,x.length=1:=by simp [Vc]
 obtain⟨S,hS⟩:∃ S,Vc=S:=⟨_,rfl⟩
 rw [hS] at hl h1 ⊢
 clear hS
 have e1:(((S.length:Nat):Int).tmod 2 == 1)=false:=by rw [hl];rfl
 have e2:((2:Int) != 0)=true:=rfl
 refine VC.intro ⟨[0,2,6],[]⟩ Tryz.func113 rfl follows XQ (by rw [Tryz.ntmps113];exact Nat.le_of_ble_eq_true rfl) ?_;refine J1 ?_
 repeat (first|apply Ax|apply Al|apply Ap|apply Ay|apply An|apply Aq rfl|apply Am rfl|apply Aj rfl|(refine Af rfl ?_;intro K' hK hP;simp only [go_sem,e1,e2];apply hK;(focus (simp only [go_sem];exact rfl));clear hK hP K'))
 refine Af rfl ?_;intro K' hK hP;simp only [go_sem]
 refine⟨?_,?_⟩
 . rw [Bool.and_eq_true,Bool.and_eq_true]
   exact⟨decide_eq_true (by omega),rfl,List.all_eq_true.2 fun x hx=>beq_iff_eq.2 (h1 x hx)⟩
 apply hK;(focus (simp only [go_sem];exact rfl));clear hK hP K'
 repeat (first|apply Ax|apply Al|apply Ap|apply Ay|apply An|apply Aq rfl|apply Am rfl|apply Aj rfl|(refine Af rfl ?_;intro K' hK hP;simp only [go_sem];apply hK;(focus (simp only [go_sem];exact rfl));clear hK hP K'))
 refine Bj ?_;simp only [go_sem,Tryz.results113]
end Go.Proofs.YtkcfmlfkfagejaaGreatDoor
namespace Go.Proofs.YtkcfmlfkfagejaaGreatDoor
open Go Go.Vl
theorem p0:BE Tryz.prog 64=true:=by kernel_rfl
theorem p1:BE Tryz.prog 65=true:=by kernel_rfl
theorem p2:BE Tryz.prog 66=true:=by kernel_rfl
theorem p3:BE Tryz.prog 67=true:=by kernel_rfl
theorem p4:U5 Tryz.prog 4=true:=by kernel_rfl
attribute [go_sem] p0 p1 p2 p3 p4
theorem XG:B0 [(12,[0,3,4,1,2,5,6,7,8,9,10])] Tryz.f66.ntmps (Tryz.f66.body.getD .skip)=true:=by kernel_rfl
end Go.Proofs.YtkcfmlfkfagejaaGreatDoor
