/-
  What the walks in plain values ask of the program's types and functions.
-/
import Derived.Test.YtkcfmlfkfagejaaGreatDoorChecked
import Derived.Test.YtkcfmlfkfagejaaGreatDoorU4
set_option linter.unusedVariables false
set_option linter.unusedSimpArgs false
namespace Go.Proofs.YtkcfmlfkfagejaaGreatDoor
open Go Go.Vl
theorem q0:GU Tryz.prog 49=some true:=by kernel_rfl
theorem q1:JN Tryz.prog 49=some 2:=by kernel_rfl
theorem q2:zeroV Tryz.prog 49=some [.lit (.int .i64 0),.lit (.int .i64 0)]:=by kernel_rfl
theorem q3:Gf Tryz.prog 9=true:=by kernel_rfl
theorem q4:Ht Tryz.prog 49=some [.lit (.int .i64 0),.lit (.int .i64 0)]:=by kernel_rfl
theorem q5:(GN Tryz.prog 49).isSome=true:=by kernel_rfl
theorem q6:KY Tryz.prog 49 0=some (0,1):=by kernel_rfl
theorem q7:KY Tryz.prog 49 1=some (1,1):=by kernel_rfl
theorem q8:Ht Tryz.prog 222=some [.lit (.string ⟨#[]⟩),.lit (.int .i64 0),.sl [] .nil]:=by kernel_rfl
theorem q9:(GN Tryz.prog 222).isSome=true:=by kernel_rfl
theorem q10:KY Tryz.prog 222 0=some (0,1):=by kernel_rfl
theorem q11:KY Tryz.prog 222 1=some (1,1):=by kernel_rfl
theorem q12:KY Tryz.prog 222 2=some (2,1):=by kernel_rfl
theorem q13:BE Tryz.prog 143=true:=by kernel_rfl
theorem q14:Ko Tryz.prog 222 1=some (1,1,false):=by kernel_rfl
theorem q15:GU Tryz.prog 3=some false:=by kernel_rfl
theorem q16:JN Tryz.prog 3=some 1:=by kernel_rfl
theorem q17:BE Tryz.prog 144=true:=by kernel_rfl
theorem q18:BE Tryz.prog 145=true:=by kernel_rfl
theorem q19:Ko Tryz.prog 222 2=some (2,1,false):=by kernel_rfl
theorem q20:GU Tryz.prog 129=some false:=by kernel_rfl
theorem q21:JN Tryz.prog 129=some 1:=by kernel_rfl
theorem q22:GU Tryz.prog 180=some true:=by kernel_rfl
theorem q23:JN Tryz.prog 180=some 3:=by kernel_rfl
theorem q24:zeroV Tryz.prog 180=some [.sl [] .own,.lit (.int .i64 0),.lit (.int .i64 0)]:=by kernel_rfl
theorem q25:Ht Tryz.prog 180=some [.sl [] .nil,.lit (.int .i64 0),.lit (.int .i64 0)]:=by kernel_rfl
theorem q26:(GN Tryz.prog 180).isSome=true:=by kernel_rfl
theorem q27:KY Tryz.prog 180 0=some (0,1):=by kernel_rfl
theorem q28:KY Tryz.prog 180 1=some (1,2):=by kernel_rfl
theorem q29:BE Tryz.prog 152=true:=by kernel_rfl
theorem q30:BE Tryz.prog 153=true:=by kernel_rfl
theorem q31:zeroV Tryz.prog 229=some [.lit (.int .i64 0),.lit (.int .i64 0),.lit (.string ⟨#[]⟩),.lit (.int .i64 0),.lit (.int .i64 0),.lit (.int .i64 0)]:=by kernel_rfl
theorem q32:JN Tryz.prog 229=some 6:=by kernel_rfl
theorem q33:Ko Tryz.prog 229 2=some (5,1,false):=by kernel_rfl
theorem q34:GU Tryz.prog 33=some false:=by kernel_rfl
theorem q35:JN Tryz.prog 33=some 1:=by kernel_rfl
theorem q36:Ko Tryz.prog 229 0=some (0,4,true):=by kernel_rfl
theorem q37:GU Tryz.prog 137=some true:=by kernel_rfl
theorem q38:JN Tryz.prog 137=some 4:=by kernel_rfl
theorem q39:T6 Tryz.prog 129=some (4,40):=by kernel_rfl
theorem q40:Sb Tryz.prog 129=some (4,40):=by kernel_rfl
theorem q41:Gf Tryz.prog 129=false:=by kernel_rfl
theorem q42:Ko Tryz.prog 229 1=some (4,1,false):=by kernel_rfl
theorem q43:Ht Tryz.prog 137=some [.lit (.int .i64 0),.lit (.int .i64 0),.lit (.string ⟨#[]⟩),.lit (.int .i64 0)]:=by kernel_rfl
theorem q44:(GN Tryz.prog 137).isSome=true:=by kernel_rfl
theorem q45:KY Tryz.prog 137 0=some (0,1):=by kernel_rfl
theorem q46:KY Tryz.prog 137 1=some (1,1):=by kernel_rfl
theorem q47:KY Tryz.prog 137 2=some (2,1):=by kernel_rfl
theorem q48:KY Tryz.prog 137 3=some (3,1):=by kernel_rfl
theorem q49:Ko Tryz.prog 222 0=some (0,1,false):=by kernel_rfl
theorem q50:GU Tryz.prog 9=some false:=by kernel_rfl
theorem q51:JN Tryz.prog 9=some 1:=by kernel_rfl
theorem q52:BE Tryz.prog 164=true:=by kernel_rfl
theorem q53:BE Tryz.prog 165=true:=by kernel_rfl
theorem q54:Ht Tryz.prog 246=some [.fno false 0 [],.fno false 0 [],.fno false 0 [],.fno false 0 []]:=by kernel_rfl
theorem q55:(GN Tryz.prog 246).isSome=true:=by kernel_rfl
theorem q56:KY Tryz.prog 246 0=some (0,1):=by kernel_rfl
theorem q57:KY Tryz.prog 246 1=some (1,1):=by kernel_rfl
theorem q58:KY Tryz.prog 246 2=some (2,1):=by kernel_rfl
theorem q59:KY Tryz.prog 246 3=some (3,1):=by kernel_rfl
theorem q60:BE Tryz.prog 166=true:=by kernel_rfl
theorem q61:BE Tryz.prog 167=true:=by kernel_rfl
theorem q62:BE Tryz.prog 168=true:=by kernel_rfl
theorem q63:BE Tryz.prog 169=true:=by kernel_rfl
theorem q64:Gf Tryz.prog 246=false:=by kernel_rfl
theorem q65:Xj Tryz.prog 246=some (4,1,false):=by kernel_rfl
theorem q66:GU Tryz.prog 229=some true:=by kernel_rfl
theorem q67:BE Tryz.prog 174=true:=by kernel_rfl
theorem q68:BE Tryz.prog 175=true:=by kernel_rfl
theorem q69:BE Tryz.prog 176=true:=by kernel_rfl
theorem q70:BE Tryz.prog 177=true:=by kernel_rfl
theorem q71:BE Tryz.prog 178=true:=by kernel_rfl
theorem q72:BE Tryz.prog 179=true:=by kernel_rfl
theorem q73:Ht Tryz.prog 229=some [.lit (.int .i64 0),.lit (.int .i64 0),.lit (.string ⟨#[]⟩),.lit (.int .i64 0),.lit (.int .i64 0),.lit (.int .i64 0)]:=by kernel_rfl
theorem q74:(GN Tryz.prog 229).isSome=true:=by kernel_rfl
theorem q75:KY Tryz.prog 229 0=some (0,4):=by kernel_rfl
theorem q76:KY Tryz.prog 229 1=some (4,1):=by kernel_rfl
theorem q77:KY Tryz.prog 229 2=some (5,1):=by kernel_rfl
theorem q78:Xb Tryz.prog 3=some .i64:=by kernel_rfl
theorem q79:(Tryz.prog.underlying 5).isSome=true:=by kernel_rfl
theorem q80:Gf Tryz.prog 5=false:=by kernel_rfl
theorem q81:Gf Tryz.prog 3=false:=by kernel_rfl
theorem q82:Gf Tryz.prog 146=false:=by kernel_rfl
theorem q83:Sb Tryz.prog 146=some (1,1):=by kernel_rfl
theorem q84:Xl Tryz.prog 146=true:=by kernel_rfl
theorem q85:BE Tryz.prog 201=true:=by kernel_rfl
theorem q86:T6 Tryz.prog 146=some (1,1):=by kernel_rfl
theorem q87:T6 Tryz.prog 143=some (1,16):=by kernel_rfl
theorem q88:BE Tryz.prog 202=true:=by kernel_rfl
theorem q89:zeroV Tryz.prog 137=some [.lit (.int .i64 0),.lit (.int .i64 0),.lit (.string ⟨#[]⟩),.lit (.int .i64 0)]:=by kernel_rfl
theorem q90:Ko Tryz.prog 137 0=some (0,1,false):=by kernel_rfl
theorem q91:Ko Tryz.prog 137 2=some (2,1,false):=by kernel_rfl
theorem q92:Sb Tryz.prog 143=some (1,16):=by kernel_rfl
theorem q93:Gf Tryz.prog 143=false:=by kernel_rfl
theorem q94:Ko Tryz.prog 137 3=some (3,1,false):=by kernel_rfl
theorem q95:BE Tryz.prog 112=true:=by kernel_rfl
theorem q96:BE Tryz.prog 113=true:=by kernel_rfl
theorem q97:BE Tryz.prog 114=true:=by kernel_rfl
theorem q98:BE Tryz.prog 115=true:=by kernel_rfl
theorem q99:BE Tryz.prog 194=true:=by kernel_rfl
theorem q100:BE Tryz.prog 195=true:=by kernel_rfl
theorem q101:Ta Tryz.prog 217=true:=by kernel_rfl
theorem q102:BE Tryz.prog 196=true:=by kernel_rfl
theorem q103:BE Tryz.prog 197=true:=by kernel_rfl
theorem q104:BE Tryz.prog 198=true:=by kernel_rfl
theorem q105:Nr Tryz.prog 9=true:=by kernel_rfl
theorem q106:Ht Tryz.prog 211=some [.lit (.int .u32 0),.lit (.int .i32 0),.lit (.int .u32 0),.lit .nilIface,.sl [] .nil]:=by kernel_rfl
theorem q107:(GN Tryz.prog 211).isSome=true:=by kernel_rfl
theorem q108:KY Tryz.prog 211 0=some (0,3):=by kernel_rfl
theorem q109:KY Tryz.prog 211 1=some (3,1):=by kernel_rfl
theorem q110:KY Tryz.prog 211 2=some (4,1):=by kernel_rfl
attribute [go_sem] q0 q1 q2 q3 q4 q5 q6 q7 q8 q9 q10 q11 q12 q13 q14 q15 q16 q17 q18 q19 q20 q21 q22 q23 q24 q25 q26 q27 q28 q29 q30 q31 q32 q33 q34 q35 q36 q37 q38 q39 q40 q41 q42 q43 q44 q45 q46 q47 q48 q49 q50 q51 q52 q53 q54 q55 q56 q57 q58 q59 q60 q61 q62 q63 q64 q65 q66 q67 q68 q69 q70 q71 q72 q73 q74 q75 q76 q77 q78 q79 q80 q81 q82 q83 q84 q85 q86 q87 q88 q89 q90 q91 q92 q93 q94 q95 q96 q97 q98 q99 q100 q101 q102 q103 q104 q105 q106 q107 q108 q109 q110
theorem follows:Tryz.prog.follows .mixedOrders=true:=by kernel_rfl
theorem XP:B0 [] Tryz.f116.ntmps (Tryz.f116.body.getD .skip)=true:=by kernel_rfl
theorem XO:B0 [] Tryz.f143.ntmps (Tryz.f143.body.getD .skip)=true:=by kernel_rfl
theorem XN:B0 [] Tryz.f144.ntmps (Tryz.f144.body.getD .skip)=true:=by kernel_rfl
theorem XM:B0 [] Tryz.f145.ntmps (Tryz.f145.body.getD .skip)=true:=by kernel_rfl
theorem XL:B0 [] Tryz.f166.ntmps (Tryz.f166.body.getD .skip)=true:=by kernel_rfl
theorem XK:B0 [] Tryz.f167.ntmps (Tryz.f167.body.getD .skip)=true:=by kernel_rfl
theorem XJ:B0 [] Tryz.f168.ntmps (Tryz.f168.body.getD .skip)=true:=by kernel_rfl
theorem XI:B0 [] Tryz.f169.ntmps (Tryz.f169.body.getD .skip)=true:=by kernel_rfl
theorem XQ:B0 [] Tryz.f113.ntmps (Tryz.f113.body.getD .skip)=true:=by kernel_rfl
theorem XH:B0 [] Tryz.f194.ntmps (Tryz.f194.body.getD .skip)=true:=by kernel_rfl
end Go.Proofs.YtkcfmlfkfagejaaGreatDoor
