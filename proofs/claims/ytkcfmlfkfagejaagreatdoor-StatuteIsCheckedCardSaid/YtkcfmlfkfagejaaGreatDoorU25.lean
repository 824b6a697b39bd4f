/-
  What the walks in plain values ask of the program's types and functions.
-/
import Derived.Test.YtkcfmlfkfagejaaGreatDoorChecked
import Derived.Test.YtkcfmlfkfagejaaGreatDoorU4
set_option linter.unusedVariables false
set_option linter.unusedSimpArgs false
namespace Go.Proofs.YtkcfmlfkfagejaaGreatDoor
open Go Go.Vl
theorem q0:HK Tryz.prog 49=some true:=by kernel_rfl
theorem q1:K9 Tryz.prog 49=some 2:=by kernel_rfl
theorem q2:zeroV Tryz.prog 49=some [.lit (.int .i64 0),.lit (.int .i64 0)]:=by kernel_rfl
theorem q3:Hc Tryz.prog 9=true:=by kernel_rfl
theorem q4:Im Tryz.prog 49=some [.lit (.int .i64 0),.lit (.int .i64 0)]:=by kernel_rfl
theorem q5:(HA Tryz.prog 49).isSome=true:=by kernel_rfl
theorem q6:LN Tryz.prog 49 0=some (0,1):=by kernel_rfl
theorem q7:LN Tryz.prog 49 1=some (1,1):=by kernel_rfl
theorem q8:Im Tryz.prog 222=some [.lit (.string ⟨#[]⟩),.lit (.int .i64 0),.sl [] .nil]:=by kernel_rfl
theorem q9:(HA Tryz.prog 222).isSome=true:=by kernel_rfl
theorem q10:LN Tryz.prog 222 0=some (0,1):=by kernel_rfl
theorem q11:LN Tryz.prog 222 1=some (1,1):=by kernel_rfl
theorem q12:LN Tryz.prog 222 2=some (2,1):=by kernel_rfl
theorem q13:Cq Tryz.prog 143=true:=by kernel_rfl
theorem q14:Ld Tryz.prog 222 1=some (1,1,false):=by kernel_rfl
theorem q15:HK Tryz.prog 3=some false:=by kernel_rfl
theorem q16:K9 Tryz.prog 3=some 1:=by kernel_rfl
theorem q17:Cq Tryz.prog 144=true:=by kernel_rfl
theorem q18:Cq Tryz.prog 145=true:=by kernel_rfl
theorem q19:Ld Tryz.prog 222 2=some (2,1,false):=by kernel_rfl
theorem q20:HK Tryz.prog 129=some false:=by kernel_rfl
theorem q21:K9 Tryz.prog 129=some 1:=by kernel_rfl
theorem q22:HK Tryz.prog 180=some true:=by kernel_rfl
theorem q23:K9 Tryz.prog 180=some 3:=by kernel_rfl
theorem q24:zeroV Tryz.prog 180=some [.sl [] .own,.lit (.int .i64 0),.lit (.int .i64 0)]:=by kernel_rfl
theorem q25:Im Tryz.prog 180=some [.sl [] .nil,.lit (.int .i64 0),.lit (.int .i64 0)]:=by kernel_rfl
theorem q26:(HA Tryz.prog 180).isSome=true:=by kernel_rfl
theorem q27:LN Tryz.prog 180 0=some (0,1):=by kernel_rfl
theorem q28:LN Tryz.prog 180 1=some (1,2):=by kernel_rfl
theorem q29:Cq Tryz.prog 152=true:=by kernel_rfl
theorem q30:Cq Tryz.prog 153=true:=by kernel_rfl
theorem q31:zeroV Tryz.prog 229=some [.lit (.int .i64 0),.lit (.int .i64 0),.lit (.string ⟨#[]⟩),.lit (.int .i64 0),.lit (.int .i64 0),.lit (.int .i64 0)]:=by kernel_rfl
theorem q32:K9 Tryz.prog 229=some 6:=by kernel_rfl
theorem q33:Ld Tryz.prog 229 2=some (5,1,false):=by kernel_rfl
theorem q34:HK Tryz.prog 33=some false:=by kernel_rfl
theorem q35:K9 Tryz.prog 33=some 1:=by kernel_rfl
theorem q36:Ld Tryz.prog 229 0=some (0,4,true):=by kernel_rfl
theorem q37:HK Tryz.prog 137=some true:=by kernel_rfl
theorem q38:K9 Tryz.prog 137=some 4:=by kernel_rfl
theorem q39:Vo Tryz.prog 129=some (4,40):=by kernel_rfl
theorem q40:TJ Tryz.prog 129=some (4,40):=by kernel_rfl
theorem q41:Hc Tryz.prog 129=false:=by kernel_rfl
theorem q42:Ld Tryz.prog 229 1=some (4,1,false):=by kernel_rfl
theorem q43:Im Tryz.prog 137=some [.lit (.int .i64 0),.lit (.int .i64 0),.lit (.string ⟨#[]⟩),.lit (.int .i64 0)]:=by kernel_rfl
theorem q44:(HA Tryz.prog 137).isSome=true:=by kernel_rfl
theorem q45:LN Tryz.prog 137 0=some (0,1):=by kernel_rfl
theorem q46:LN Tryz.prog 137 1=some (1,1):=by kernel_rfl
theorem q47:LN Tryz.prog 137 2=some (2,1):=by kernel_rfl
theorem q48:LN Tryz.prog 137 3=some (3,1):=by kernel_rfl
theorem q49:Ld Tryz.prog 222 0=some (0,1,false):=by kernel_rfl
theorem q50:HK Tryz.prog 9=some false:=by kernel_rfl
theorem q51:K9 Tryz.prog 9=some 1:=by kernel_rfl
theorem q52:Cq Tryz.prog 164=true:=by kernel_rfl
theorem q53:Cq Tryz.prog 165=true:=by kernel_rfl
theorem q54:Im Tryz.prog 246=some [.fno false 0 [],.fno false 0 [],.fno false 0 [],.fno false 0 []]:=by kernel_rfl
theorem q55:(HA Tryz.prog 246).isSome=true:=by kernel_rfl
theorem q56:LN Tryz.prog 246 0=some (0,1):=by kernel_rfl
theorem q57:LN Tryz.prog 246 1=some (1,1):=by kernel_rfl
theorem q58:LN Tryz.prog 246 2=some (2,1):=by kernel_rfl
theorem q59:LN Tryz.prog 246 3=some (3,1):=by kernel_rfl
theorem q60:Cq Tryz.prog 166=true:=by kernel_rfl
theorem q61:Cq Tryz.prog 167=true:=by kernel_rfl
theorem q62:Cq Tryz.prog 168=true:=by kernel_rfl
theorem q63:Cq Tryz.prog 169=true:=by kernel_rfl
theorem q64:Hc Tryz.prog 246=false:=by kernel_rfl
theorem q65:ZI Tryz.prog 246=some (4,1,false):=by kernel_rfl
theorem q66:HK Tryz.prog 229=some true:=by kernel_rfl
theorem q67:Cq Tryz.prog 174=true:=by kernel_rfl
theorem q68:Cq Tryz.prog 175=true:=by kernel_rfl
theorem q69:Cq Tryz.prog 176=true:=by kernel_rfl
theorem q70:Cq Tryz.prog 177=true:=by kernel_rfl
theorem q71:Cq Tryz.prog 178=true:=by kernel_rfl
theorem q72:Cq Tryz.prog 179=true:=by kernel_rfl
theorem q73:Im Tryz.prog 229=some [.lit (.int .i64 0),.lit (.int .i64 0),.lit (.string ⟨#[]⟩),.lit (.int .i64 0),.lit (.int .i64 0),.lit (.int .i64 0)]:=by kernel_rfl
theorem q74:(HA Tryz.prog 229).isSome=true:=by kernel_rfl
theorem q75:LN Tryz.prog 229 0=some (0,4):=by kernel_rfl
theorem q76:LN Tryz.prog 229 1=some (4,1):=by kernel_rfl
theorem q77:LN Tryz.prog 229 2=some (5,1):=by kernel_rfl
theorem q78:Z7 Tryz.prog 3=some .i64:=by kernel_rfl
theorem q79:(Tryz.prog.underlying 5).isSome=true:=by kernel_rfl
theorem q80:Hc Tryz.prog 5=false:=by kernel_rfl
theorem q81:Hc Tryz.prog 3=false:=by kernel_rfl
theorem q82:Hc Tryz.prog 146=false:=by kernel_rfl
theorem q83:TJ Tryz.prog 146=some (1,1):=by kernel_rfl
theorem q84:ZL Tryz.prog 146=true:=by kernel_rfl
theorem q85:Cq Tryz.prog 201=true:=by kernel_rfl
theorem q86:Vo Tryz.prog 146=some (1,1):=by kernel_rfl
theorem q87:Vo Tryz.prog 143=some (1,16):=by kernel_rfl
theorem q88:Cq Tryz.prog 202=true:=by kernel_rfl
theorem q89:zeroV Tryz.prog 137=some [.lit (.int .i64 0),.lit (.int .i64 0),.lit (.string ⟨#[]⟩),.lit (.int .i64 0)]:=by kernel_rfl
theorem q90:Ld Tryz.prog 137 0=some (0,1,false):=by kernel_rfl
theorem q91:Ld Tryz.prog 137 2=some (2,1,false):=by kernel_rfl
theorem q92:TJ Tryz.prog 143=some (1,16):=by kernel_rfl
theorem q93:Hc Tryz.prog 143=false:=by kernel_rfl
theorem q94:Ld Tryz.prog 137 3=some (3,1,false):=by kernel_rfl
theorem q95:Cq Tryz.prog 112=true:=by kernel_rfl
theorem q96:Cq Tryz.prog 113=true:=by kernel_rfl
theorem q97:Cq Tryz.prog 114=true:=by kernel_rfl
theorem q98:Cq Tryz.prog 115=true:=by kernel_rfl
theorem q99:Cq Tryz.prog 194=true:=by kernel_rfl
theorem q100:Cq Tryz.prog 195=true:=by kernel_rfl
theorem q101:UK Tryz.prog 217=true:=by kernel_rfl
theorem q102:Cq Tryz.prog 196=true:=by kernel_rfl
theorem q103:Cq Tryz.prog 197=true:=by kernel_rfl
theorem q104:Cq Tryz.prog 198=true:=by kernel_rfl
theorem q105:Oy Tryz.prog 9=true:=by kernel_rfl
theorem q106:Im Tryz.prog 211=some [.lit (.int .u32 0),.lit (.int .i32 0),.lit (.int .u32 0),.lit .nilIface,.sl [] .nil]:=by kernel_rfl
theorem q107:(HA Tryz.prog 211).isSome=true:=by kernel_rfl
theorem q108:LN Tryz.prog 211 0=some (0,3):=by kernel_rfl
theorem q109:LN Tryz.prog 211 1=some (3,1):=by kernel_rfl
theorem q110:LN Tryz.prog 211 2=some (4,1):=by kernel_rfl
attribute [go_sem] q0 q1 q2 q3 q4 q5 q6 q7 q8 q9 q10 q11 q12 q13 q14 q15 q16 q17 q18 q19 q20 q21 q22 q23 q24 q25 q26 q27 q28 q29 q30 q31 q32 q33 q34 q35 q36 q37 q38 q39 q40 q41 q42 q43 q44 q45 q46 q47 q48 q49 q50 q51 q52 q53 q54 q55 q56 q57 q58 q59 q60 q61 q62 q63 q64 q65 q66 q67 q68 q69 q70 q71 q72 q73 q74 q75 q76 q77 q78 q79 q80 q81 q82 q83 q84 q85 q86 q87 q88 q89 q90 q91 q92 q93 q94 q95 q96 q97 q98 q99 q100 q101 q102 q103 q104 q105 q106 q107 q108 q109 q110
theorem follows:Tryz.prog.follows .mixedOrders=true:=by kernel_rfl
theorem Aa5:BR [] Tryz.f116.ntmps (Tryz.f116.body.getD .skip)=true:=by kernel_rfl
theorem Aa4:BR [] Tryz.f143.ntmps (Tryz.f143.body.getD .skip)=true:=by kernel_rfl
theorem Aa3:BR [] Tryz.f144.ntmps (Tryz.f144.body.getD .skip)=true:=by kernel_rfl
theorem Aa2:BR [] Tryz.f145.ntmps (Tryz.f145.body.getD .skip)=true:=by kernel_rfl
theorem Aa1:BR [] Tryz.f166.ntmps (Tryz.f166.body.getD .skip)=true:=by kernel_rfl
theorem Aa0:BR [] Tryz.f167.ntmps (Tryz.f167.body.getD .skip)=true:=by kernel_rfl
theorem Aaz:BR [] Tryz.f168.ntmps (Tryz.f168.body.getD .skip)=true:=by kernel_rfl
theorem Aay:BR [] Tryz.f169.ntmps (Tryz.f169.body.getD .skip)=true:=by kernel_rfl
theorem Aa6:BR [] Tryz.f113.ntmps (Tryz.f113.body.getD .skip)=true:=by kernel_rfl
theorem Aax:BR [] Tryz.f194.ntmps (Tryz.f194.body.getD .skip)=true:=by kernel_rfl
end Go.Proofs.YtkcfmlfkfagejaaGreatDoor
