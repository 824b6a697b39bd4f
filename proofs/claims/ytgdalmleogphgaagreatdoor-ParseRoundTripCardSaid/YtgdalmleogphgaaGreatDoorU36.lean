/-
  What the walks in plain values ask of the program's types and functions. The walks: operators: the program computes the plain functions. (Printed by lift.py.)
-/
import Derived.Test.YtgdalmleogphgaaGreatDoorChecked
import Derived.Test.YtgdalmleogphgaaGreatDoorU2
import Derived.Test.YtgdalmleogphgaaGreatDoorU5
namespace Go.Proofs.YtgdalmleogphgaaGreatDoor
open Go Go.Vl
theorem q0:FY Tryz.prog 26=some true:=by kernel_rfl
theorem q1:IK Tryz.prog 26=some 2:=by kernel_rfl
theorem q2:zeroV Tryz.prog 26=some [.lit (.int .i64 0),.lit (.int .i64 0)]:=by kernel_rfl
theorem q3:Gg Tryz.prog 9=true:=by kernel_rfl
theorem q4:G9 Tryz.prog 26=some [.lit (.int .i64 0),.lit (.int .i64 0)]:=by kernel_rfl
theorem q5:(FP Tryz.prog 26).isSome=true:=by kernel_rfl
theorem q6:JN Tryz.prog 26 0=some (0,1):=by kernel_rfl
theorem q7:JN Tryz.prog 26 1=some (1,1):=by kernel_rfl
theorem q8:G9 Tryz.prog 131=some [.lit (.string ⟨#[]⟩),.lit (.int .i64 0),.sl [] .nil]:=by kernel_rfl
theorem q9:(FP Tryz.prog 131).isSome=true:=by kernel_rfl
theorem q10:JN Tryz.prog 131 0=some (0,1):=by kernel_rfl
theorem q11:JN Tryz.prog 131 1=some (1,1):=by kernel_rfl
theorem q12:JN Tryz.prog 131 2=some (2,1):=by kernel_rfl
theorem q13:C7 Tryz.prog 72=true:=by kernel_rfl
theorem q14:Jn Tryz.prog 131 1=some (1,1,false):=by kernel_rfl
theorem q15:FY Tryz.prog 3=some false:=by kernel_rfl
theorem q16:IK Tryz.prog 3=some 1:=by kernel_rfl
theorem q17:C7 Tryz.prog 73=true:=by kernel_rfl
theorem q18:C7 Tryz.prog 74=true:=by kernel_rfl
theorem q19:Jn Tryz.prog 131 2=some (2,1,false):=by kernel_rfl
theorem q20:FY Tryz.prog 64=some false:=by kernel_rfl
theorem q21:IK Tryz.prog 64=some 1:=by kernel_rfl
theorem q22:FY Tryz.prog 71=some true:=by kernel_rfl
theorem q23:IK Tryz.prog 71=some 3:=by kernel_rfl
theorem q24:zeroV Tryz.prog 71=some [.sl [] .own,.lit (.int .i64 0),.lit (.int .i64 0)]:=by kernel_rfl
theorem q25:G9 Tryz.prog 71=some [.sl [] .nil,.lit (.int .i64 0),.lit (.int .i64 0)]:=by kernel_rfl
theorem q26:(FP Tryz.prog 71).isSome=true:=by kernel_rfl
theorem q27:JN Tryz.prog 71 0=some (0,1):=by kernel_rfl
theorem q28:JN Tryz.prog 71 1=some (1,2):=by kernel_rfl
theorem q29:C7 Tryz.prog 53=true:=by kernel_rfl
theorem q30:C7 Tryz.prog 54=true:=by kernel_rfl
theorem q31:zeroV Tryz.prog 105=some [.lit (.int .i64 0),.lit (.int .i64 0),.lit (.string ⟨#[]⟩),.lit (.int .i64 0),.lit (.int .i64 0),.lit (.int .i64 0)]:=by kernel_rfl
theorem q32:IK Tryz.prog 105=some 6:=by kernel_rfl
theorem q33:Jn Tryz.prog 105 2=some (5,1,false):=by kernel_rfl
theorem q34:FY Tryz.prog 24=some false:=by kernel_rfl
theorem q35:IK Tryz.prog 24=some 1:=by kernel_rfl
theorem q36:Jn Tryz.prog 105 0=some (0,4,true):=by kernel_rfl
theorem q37:FY Tryz.prog 63=some true:=by kernel_rfl
theorem q38:IK Tryz.prog 63=some 4:=by kernel_rfl
theorem q39:Uh Tryz.prog 64=some (4,40):=by kernel_rfl
theorem q40:QA Tryz.prog 64=some (4,40):=by kernel_rfl
theorem q41:Gg Tryz.prog 64=false:=by kernel_rfl
theorem q42:Jn Tryz.prog 105 1=some (4,1,false):=by kernel_rfl
theorem q43:G9 Tryz.prog 63=some [.lit (.int .i64 0),.lit (.int .i64 0),.lit (.string ⟨#[]⟩),.lit (.int .i64 0)]:=by kernel_rfl
theorem q44:(FP Tryz.prog 63).isSome=true:=by kernel_rfl
theorem q45:JN Tryz.prog 63 0=some (0,1):=by kernel_rfl
theorem q46:JN Tryz.prog 63 1=some (1,1):=by kernel_rfl
theorem q47:JN Tryz.prog 63 2=some (2,1):=by kernel_rfl
theorem q48:JN Tryz.prog 63 3=some (3,1):=by kernel_rfl
theorem q49:Jn Tryz.prog 131 0=some (0,1,false):=by kernel_rfl
theorem q50:FY Tryz.prog 9=some false:=by kernel_rfl
theorem q51:IK Tryz.prog 9=some 1:=by kernel_rfl
theorem q52:C7 Tryz.prog 95=true:=by kernel_rfl
theorem q53:C7 Tryz.prog 96=true:=by kernel_rfl
theorem q54:G9 Tryz.prog 170=some [.lit .nilFunc,.lit .nilFunc,.lit .nilFunc,.lit .nilFunc]:=by kernel_rfl
theorem q55:(FP Tryz.prog 170).isSome=true:=by kernel_rfl
theorem q56:JN Tryz.prog 170 0=some (0,1):=by kernel_rfl
theorem q57:JN Tryz.prog 170 1=some (1,1):=by kernel_rfl
theorem q58:JN Tryz.prog 170 2=some (2,1):=by kernel_rfl
theorem q59:JN Tryz.prog 170 3=some (3,1):=by kernel_rfl
theorem q60:C7 Tryz.prog 97=true:=by kernel_rfl
theorem q61:C7 Tryz.prog 98=true:=by kernel_rfl
theorem q62:C7 Tryz.prog 99=true:=by kernel_rfl
theorem q63:C7 Tryz.prog 100=true:=by kernel_rfl
theorem q64:Gg Tryz.prog 170=false:=by kernel_rfl
theorem q65:W7 Tryz.prog 170=some (4,1,false):=by kernel_rfl
theorem q66:FY Tryz.prog 105=some true:=by kernel_rfl
theorem q67:C7 Tryz.prog 78=true:=by kernel_rfl
theorem q68:C7 Tryz.prog 79=true:=by kernel_rfl
theorem q69:C7 Tryz.prog 80=true:=by kernel_rfl
theorem q70:C7 Tryz.prog 81=true:=by kernel_rfl
theorem q71:C7 Tryz.prog 82=true:=by kernel_rfl
theorem q72:C7 Tryz.prog 83=true:=by kernel_rfl
theorem q73:G9 Tryz.prog 105=some [.lit (.int .i64 0),.lit (.int .i64 0),.lit (.string ⟨#[]⟩),.lit (.int .i64 0),.lit (.int .i64 0),.lit (.int .i64 0)]:=by kernel_rfl
theorem q74:(FP Tryz.prog 105).isSome=true:=by kernel_rfl
theorem q75:JN Tryz.prog 105 0=some (0,4):=by kernel_rfl
theorem q76:JN Tryz.prog 105 1=some (4,1):=by kernel_rfl
theorem q77:JN Tryz.prog 105 2=some (5,1):=by kernel_rfl
theorem q78:Wl Tryz.prog 3=some .i64:=by kernel_rfl
theorem q79:(Tryz.prog.underlying 5).isSome=true:=by kernel_rfl
theorem q80:Gg Tryz.prog 5=false:=by kernel_rfl
theorem q81:Gg Tryz.prog 3=false:=by kernel_rfl
theorem q82:Gg Tryz.prog 157=false:=by kernel_rfl
theorem q83:QA Tryz.prog 157=some (1,1):=by kernel_rfl
theorem q84:X5 Tryz.prog 157=true:=by kernel_rfl
theorem q85:C7 Tryz.prog 102=true:=by kernel_rfl
theorem q86:Uh Tryz.prog 157=some (1,1):=by kernel_rfl
theorem q87:Uh Tryz.prog 42=some (1,16):=by kernel_rfl
theorem q88:C7 Tryz.prog 103=true:=by kernel_rfl
theorem q89:zeroV Tryz.prog 63=some [.lit (.int .i64 0),.lit (.int .i64 0),.lit (.string ⟨#[]⟩),.lit (.int .i64 0)]:=by kernel_rfl
theorem q90:Jn Tryz.prog 63 0=some (0,1,false):=by kernel_rfl
theorem q91:Jn Tryz.prog 63 2=some (2,1,false):=by kernel_rfl
theorem q92:QA Tryz.prog 42=some (1,16):=by kernel_rfl
theorem q93:Gg Tryz.prog 42=false:=by kernel_rfl
theorem q94:Jn Tryz.prog 63 3=some (3,1,false):=by kernel_rfl
theorem q95:C7 Tryz.prog 64=true:=by kernel_rfl
theorem q96:C7 Tryz.prog 65=true:=by kernel_rfl
theorem q97:C7 Tryz.prog 66=true:=by kernel_rfl
theorem q98:C7 Tryz.prog 67=true:=by kernel_rfl
theorem q99:C7 Tryz.prog 111=true:=by kernel_rfl
theorem q100:C7 Tryz.prog 112=true:=by kernel_rfl
theorem q101:C7 Tryz.prog 113=true:=by kernel_rfl
theorem q102:RS Tryz.prog 161=true:=by kernel_rfl
theorem q103:C7 Tryz.prog 114=true:=by kernel_rfl
theorem q104:C7 Tryz.prog 115=true:=by kernel_rfl
theorem q105:C7 Tryz.prog 116=true:=by kernel_rfl
theorem q106:Mm Tryz.prog 9=true:=by kernel_rfl
theorem q107:G9 Tryz.prog 154=some [.lit (.int .u32 0),.lit (.int .i32 0),.lit (.int .u32 0),.lit .nilIface,.sl [] .nil]:=by kernel_rfl
theorem q108:(FP Tryz.prog 154).isSome=true:=by kernel_rfl
theorem q109:JN Tryz.prog 154 0=some (0,3):=by kernel_rfl
theorem q110:JN Tryz.prog 154 1=some (3,1):=by kernel_rfl
theorem q111:JN Tryz.prog 154 2=some (4,1):=by kernel_rfl
attribute [go_sem] q0 q1 q2 q3 q4 q5 q6 q7 q8 q9 q10 q11 q12 q13 q14 q15 q16 q17 q18 q19 q20 q21 q22 q23 q24 q25 q26 q27 q28 q29 q30 q31 q32 q33 q34 q35 q36 q37 q38 q39 q40 q41 q42 q43 q44 q45 q46 q47 q48 q49 q50 q51 q52 q53 q54 q55 q56 q57 q58 q59 q60 q61 q62 q63 q64 q65 q66 q67 q68 q69 q70 q71 q72 q73 q74 q75 q76 q77 q78 q79 q80 q81 q82 q83 q84 q85 q86 q87 q88 q89 q90 q91 q92 q93 q94 q95 q96 q97 q98 q99 q100 q101 q102 q103 q104 q105 q106 q107 q108 q109 q110 q111
theorem follows:Tryz.prog.follows .mixedOrders=true:=by kernel_rfl
theorem Yh:AM [] Tryz.f43.ntmps (Tryz.f43.body.getD .skip)=true:=by kernel_rfl
theorem XR:AM [] Tryz.f72.ntmps (Tryz.f72.body.getD .skip)=true:=by kernel_rfl
theorem XQ:AM [] Tryz.f73.ntmps (Tryz.f73.body.getD .skip)=true:=by kernel_rfl
theorem XP:AM [] Tryz.f74.ntmps (Tryz.f74.body.getD .skip)=true:=by kernel_rfl
theorem XJ:AM [] Tryz.f97.ntmps (Tryz.f97.body.getD .skip)=true:=by kernel_rfl
theorem XI:AM [] Tryz.f98.ntmps (Tryz.f98.body.getD .skip)=true:=by kernel_rfl
theorem XH:AM [] Tryz.f99.ntmps (Tryz.f99.body.getD .skip)=true:=by kernel_rfl
theorem Xh:AM [] Tryz.f100.ntmps (Tryz.f100.body.getD .skip)=true:=by kernel_rfl
theorem XV:AM [] Tryz.f65.ntmps (Tryz.f65.body.getD .skip)=true:=by kernel_rfl
theorem Xg:AM [] Tryz.f112.ntmps (Tryz.f112.body.getD .skip)=true:=by kernel_rfl
theorem YK:AM [] Tryz.f8.ntmps (Tryz.f8.body.getD .skip)=true:=by kernel_rfl
theorem Yy:AM [] Tryz.f15.ntmps (Tryz.f15.body.getD .skip)=true:=by kernel_rfl
theorem Yx:AM [] Tryz.f17.ntmps (Tryz.f17.body.getD .skip)=true:=by kernel_rfl
theorem Yw:AM [] Tryz.f18.ntmps (Tryz.f18.body.getD .skip)=true:=by kernel_rfl
theorem Yv:AM [] Tryz.f19.ntmps (Tryz.f19.body.getD .skip)=true:=by kernel_rfl
theorem Yu:AM [] Tryz.f20.ntmps (Tryz.f20.body.getD .skip)=true:=by kernel_rfl
theorem Yt:AM [] Tryz.f21.ntmps (Tryz.f21.body.getD .skip)=true:=by kernel_rfl
theorem Ys:AM [] Tryz.f22.ntmps (Tryz.f22.body.getD .skip)=true:=by kernel_rfl
theorem Yr:AM [] Tryz.f23.ntmps (Tryz.f23.body.getD .skip)=true:=by kernel_rfl
theorem Yq:AM [] Tryz.f27.ntmps (Tryz.f27.body.getD .skip)=true:=by kernel_rfl
theorem Yp:AM [] Tryz.f34.ntmps (Tryz.f34.body.getD .skip)=true:=by kernel_rfl
theorem Yo:AM [] Tryz.f35.ntmps (Tryz.f35.body.getD .skip)=true:=by kernel_rfl
theorem Yn:AM [] Tryz.f36.ntmps (Tryz.f36.body.getD .skip)=true:=by kernel_rfl
theorem Ym:AM [] Tryz.f38.ntmps (Tryz.f38.body.getD .skip)=true:=by kernel_rfl
theorem Yl:AM [] Tryz.f39.ntmps (Tryz.f39.body.getD .skip)=true:=by kernel_rfl
theorem Yk:AM [] Tryz.f40.ntmps (Tryz.f40.body.getD .skip)=true:=by kernel_rfl
theorem Yj:AM [] Tryz.f41.ntmps (Tryz.f41.body.getD .skip)=true:=by kernel_rfl
theorem Yi:AM [] Tryz.f42.ntmps (Tryz.f42.body.getD .skip)=true:=by kernel_rfl
theorem Yg:AM [] Tryz.f45.ntmps (Tryz.f45.body.getD .skip)=true:=by kernel_rfl
theorem Yf:AM [] Tryz.f46.ntmps (Tryz.f46.body.getD .skip)=true:=by kernel_rfl
theorem Ye:AM [] Tryz.f47.ntmps (Tryz.f47.body.getD .skip)=true:=by kernel_rfl
theorem Yd:AM [] Tryz.f48.ntmps (Tryz.f48.body.getD .skip)=true:=by kernel_rfl
theorem Yc:AM [] Tryz.f49.ntmps (Tryz.f49.body.getD .skip)=true:=by kernel_rfl
theorem Yb:AM [] Tryz.f50.ntmps (Tryz.f50.body.getD .skip)=true:=by kernel_rfl
theorem Ya:AM [] Tryz.f52.ntmps (Tryz.f52.body.getD .skip)=true:=by kernel_rfl
theorem XZ:AM [] Tryz.f60.ntmps (Tryz.f60.body.getD .skip)=true:=by kernel_rfl
theorem XY:AM [] Tryz.f61.ntmps (Tryz.f61.body.getD .skip)=true:=by kernel_rfl
theorem XX:AM [] Tryz.f62.ntmps (Tryz.f62.body.getD .skip)=true:=by kernel_rfl
theorem XW:AM [] Tryz.f63.ntmps (Tryz.f63.body.getD .skip)=true:=by kernel_rfl
theorem XU:AM [] Tryz.f68.ntmps (Tryz.f68.body.getD .skip)=true:=by kernel_rfl
theorem Xf:AM [] Tryz.f69.ntmps (Tryz.f69.body.getD .skip)=true:=by kernel_rfl
theorem XT:AM [] Tryz.f70.ntmps (Tryz.f70.body.getD .skip)=true:=by kernel_rfl
theorem XS:AM [] Tryz.f71.ntmps (Tryz.f71.body.getD .skip)=true:=by kernel_rfl
theorem XO:AM [] Tryz.f75.ntmps (Tryz.f75.body.getD .skip)=true:=by kernel_rfl
theorem XN:AM [] Tryz.f76.ntmps (Tryz.f76.body.getD .skip)=true:=by kernel_rfl
theorem XM:AM [] Tryz.f77.ntmps (Tryz.f77.body.getD .skip)=true:=by kernel_rfl
theorem XL:AM [] Tryz.f87.ntmps (Tryz.f87.body.getD .skip)=true:=by kernel_rfl
theorem XK:AM [] Tryz.f94.ntmps (Tryz.f94.body.getD .skip)=true:=by kernel_rfl
theorem YL:AM [] Tryz.f6.ntmps (Tryz.f6.body.getD .skip)=true:=by kernel_rfl
end Go.Proofs.YtgdalmleogphgaaGreatDoor
namespace Go.Proofs.YtgdalmleogphgaaGreatDoor
open Go.RowKit Go.Q Go.Vl Go.Sp
set_option maxRecDepth 100000
set_option linter.unusedSimpArgs false
set_option maxHeartbeats 4000000
set_option linter.unusedVariables false
theorem IX (r:(List Aq))(h:Cv=some r)(Q:B7->List (List PV)->Prop)(hQ:∀ y,y=oP r Ar->Q (.ret y) []) :
 VC Tryz.prog 70 [] [] Q:=by
 unfold Cv at h
 refine VC.intro ⟨[0],[]⟩ Tryz.func70 rfl follows XT (by rw [Tryz.ntmps70];exact lb rfl) ?_
 refine B4 ?_
 refine zz ?_
 refine wn (Ai 1 []) ⟨[(0,.sl [] .own)],[]⟩ tI ?_
 obtain⟨l,hl,h⟩:=Ae h
 have fb:([[tP ⟨#[42]⟩,iP 7,iP 6],[tP ⟨#[47]⟩,iP 8,iP 6],[tP ⟨#[37]⟩,iP 9,iP 6],[tP ⟨#[43]⟩,iP 10,iP 5],[tP ⟨#[45]⟩,iP 11,iP 5],[tP ⟨#[61,61]⟩,iP 12,iP 4],[tP ⟨#[33,61]⟩,iP 13,iP 4],[tP ⟨#[60]⟩,iP 14,iP 4],[tP ⟨#[60,61]⟩,iP 15,iP 4],[tP ⟨#[62]⟩,iP 16,iP 4],[tP ⟨#[62,61]⟩,iP 17,iP 4],[tP ⟨#[38,38]⟩,iP 18,iP 2],[tP ⟨#[124,124]⟩,iP 19,iP 1]]:List (List PV))=l.map Ar:=by rw [<- Ac hl];simp only [List.map_cons,List.map_nil,Cn]
 refine wn (Ai 13 (.val (oP l Ar)::(Ai 1 []))) ⟨[(0,oP l Ar)],[]⟩ (aI (Cb rfl fb) tI) ?_
 cases h
 exact B9 (Ih hQ (by kernel_rfl)).1
theorem CY (r:(List Aq))(h:Cv=some r):FC Tryz.prog 70 [] (oP r Ar):=VC.finOwn (fun Q hQ=>IX _ h Q hQ) rfl rfl
end Go.Proofs.YtgdalmleogphgaaGreatDoor
