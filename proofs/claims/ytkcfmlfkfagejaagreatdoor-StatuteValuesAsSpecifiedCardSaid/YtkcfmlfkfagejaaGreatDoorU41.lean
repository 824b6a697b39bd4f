/-
  strings.NewReplacer, walked in plain values. lexer.Text has a statement that is walked in another order.
-/
import Derived.Test.YtkcfmlfkfagejaaGreatDoorU22
import Derived.Test.YtkcfmlfkfagejaaGreatDoorU39
set_option linter.unusedVariables false
set_option linter.unusedSimpArgs false
namespace Go.Proofs.YtkcfmlfkfagejaaGreatDoor
open Go.RowKit Go.Q Go.Lx Go.Vl
set_option maxRecDepth 100000
theorem nw0:Hk Tryz.prog 143=false:=by kernel_rfl
theorem nw1:U8 Tryz.prog 143=some (1,16):=by kernel_rfl
theorem nw2:Wv Tryz.prog 143=some (1,16):=by kernel_rfl
theorem nw3:IN Tryz.prog 211=some [.lit (.int .u32 0),.lit (.int .i32 0),.lit (.int .u32 0),.lit .nilIface,.sl [] .nil]:=by kernel_rfl
theorem nw4:(Il Tryz.prog 211).isSome=true:=by kernel_rfl
theorem nw5:M9 Tryz.prog 211 0=some (0,3):=by kernel_rfl
theorem nw6:M9 Tryz.prog 211 1=some (3,1):=by kernel_rfl
theorem nw7:M9 Tryz.prog 211 2=some (4,1):=by kernel_rfl
attribute [go_sem] nw0 nw1 nw2 nw3 nw4 nw5 nw6 nw7
def XU:List (List PV):=[[.lit (.string ⟨#[34]⟩)],[.lit (.string ⟨#[92,34]⟩)],[.lit (.string ⟨#[92]⟩)],[.lit (.string ⟨#[92,92]⟩)],[.lit (.string ⟨#[10]⟩)],[.lit (.string ⟨#[92,110]⟩)]]
def LC:List PV:=[.lit (.int .u32 0),.lit (.int .i32 0),.lit (.int .u32 0),.lit .nilIface,.sl XU .shared]
theorem Ab9:VC Tryz.prog 113 [.sl XU .shared] [] fun x σ'=>x=.ret (.ptr 0 0)/\σ'=[LC]:=by
 unfold LC
 have hl:XU.length=6:=rfl
 have h1:∀ x∈XU,x.length=1:=by simp [XU]
 obtain⟨S,hS⟩:∃ S,XU=S:=⟨_,rfl⟩
 rw [hS] at hl h1 ⊢
 clear hS
 have e1:(((S.length:Nat):Int).tmod 2 == 1)=false:=by rw [hl];rfl
 have e2:((2:Int) != 0)=true:=rfl
 refine VC.intro ⟨[0,2,6],[]⟩ Tryz.func113 rfl follows Aa8 (by rw [Tryz.ntmps113];exact Nat.le_of_ble_eq_true rfl) ?_;refine KN ?_
 repeat (first|apply A0|apply An|apply Ar|apply A1|apply Ap|apply As rfl|apply Ao rfl|apply Al rfl|(refine Af rfl ?_;intro K' hK hP;simp only [go_sem,e1,e2];apply hK;(focus (simp only [go_sem];exact rfl));clear hK hP K'))
 refine Af rfl ?_;intro K' hK hP;simp only [go_sem]
 refine⟨?_,?_⟩
 . rw [Bool.and_eq_true,Bool.and_eq_true]
   exact⟨decide_eq_true (by omega),rfl,List.all_eq_true.2 fun x hx=>beq_iff_eq.2 (h1 x hx)⟩
 apply hK;(focus (simp only [go_sem];exact rfl));clear hK hP K'
 repeat (first|apply A0|apply An|apply Ar|apply A1|apply Ap|apply As rfl|apply Ao rfl|apply Al rfl|(refine Af rfl ?_;intro K' hK hP;simp only [go_sem];apply hK;(focus (simp only [go_sem];exact rfl));clear hK hP K'))
 refine Bq ?_;simp only [go_sem,Tryz.results113]
end Go.Proofs.YtkcfmlfkfagejaaGreatDoor
namespace Go.Proofs.YtkcfmlfkfagejaaGreatDoor
open Go Go.Vl
theorem p0:BX Tryz.prog 64=true:=by kernel_rfl
theorem p1:BX Tryz.prog 65=true:=by kernel_rfl
theorem p2:BX Tryz.prog 66=true:=by kernel_rfl
theorem p3:BX Tryz.prog 67=true:=by kernel_rfl
theorem p4:Xy Tryz.prog 4=true:=by kernel_rfl
attribute [go_sem] p0 p1 p2 p3 p4
theorem Aay:BC [(12,[0,3,4,1,2,5,6,7,8,9,10])] Tryz.f66.ntmps (Tryz.f66.body.getD .skip)=true:=by kernel_rfl
end Go.Proofs.YtkcfmlfkfagejaaGreatDoor
