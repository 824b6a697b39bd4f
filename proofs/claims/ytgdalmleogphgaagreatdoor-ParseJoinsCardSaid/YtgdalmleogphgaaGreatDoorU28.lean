/-
  What the walks in plain values ask of the program's types and functions. The walks: operators: the program computes the plain functions. (Printed by lift.py.)
-/
import Derived.Test.YtgdalmleogphgaaGreatDoorChecked
import Derived.Test.YtgdalmleogphgaaGreatDoorU2
import Derived.Test.YtgdalmleogphgaaGreatDoorU5
namespace Go.Proofs.YtgdalmleogphgaaGreatDoor
open Go Go.Vl
theorem q0:aggT Tryz.prog 26=some true:=by kernel_rfl
theorem q1:szT Tryz.prog 26=some 2:=by kernel_rfl
theorem q2:zeroV Tryz.prog 26=some [.lit (.int .i64 0),.lit (.int .i64 0)]:=by kernel_rfl
theorem q3:strT Tryz.prog 9=true:=by kernel_rfl
theorem q4:zeroP Tryz.prog 26=some [.lit (.int .i64 0),.lit (.int .i64 0)]:=by kernel_rfl
theorem q5:(placeT Tryz.prog 26).isSome=true:=by kernel_rfl
theorem q6:plT Tryz.prog 26 0=some (0,1):=by kernel_rfl
theorem q7:plT Tryz.prog 26 1=some (1,1):=by kernel_rfl
theorem q8:zeroP Tryz.prog 131=some [.lit (.string ⟨#[]⟩),.lit (.int .i64 0),.sl [] .nil]:=by kernel_rfl
theorem q9:(placeT Tryz.prog 131).isSome=true:=by kernel_rfl
theorem q10:plT Tryz.prog 131 0=some (0,1):=by kernel_rfl
theorem q11:plT Tryz.prog 131 1=some (1,1):=by kernel_rfl
theorem q12:plT Tryz.prog 131 2=some (2,1):=by kernel_rfl
theorem q13:callT Tryz.prog 72=true:=by kernel_rfl
theorem q14:fldT Tryz.prog 131 1=some (1,1,false):=by kernel_rfl
theorem q15:aggT Tryz.prog 3=some false:=by kernel_rfl
theorem q16:szT Tryz.prog 3=some 1:=by kernel_rfl
theorem q17:callT Tryz.prog 73=true:=by kernel_rfl
theorem q18:callT Tryz.prog 74=true:=by kernel_rfl
theorem q19:fldT Tryz.prog 131 2=some (2,1,false):=by kernel_rfl
theorem q20:aggT Tryz.prog 64=some false:=by kernel_rfl
theorem q21:szT Tryz.prog 64=some 1:=by kernel_rfl
theorem q22:aggT Tryz.prog 71=some true:=by kernel_rfl
theorem q23:szT Tryz.prog 71=some 3:=by kernel_rfl
theorem q24:zeroV Tryz.prog 71=some [.sl [] .own,.lit (.int .i64 0),.lit (.int .i64 0)]:=by kernel_rfl
theorem q25:zeroP Tryz.prog 71=some [.sl [] .nil,.lit (.int .i64 0),.lit (.int .i64 0)]:=by kernel_rfl
theorem q26:(placeT Tryz.prog 71).isSome=true:=by kernel_rfl
theorem q27:plT Tryz.prog 71 0=some (0,1):=by kernel_rfl
theorem q28:plT Tryz.prog 71 1=some (1,2):=by kernel_rfl
theorem q29:callT Tryz.prog 53=true:=by kernel_rfl
theorem q30:callT Tryz.prog 54=true:=by kernel_rfl
theorem q31:zeroV Tryz.prog 105=some [.lit (.int .i64 0),.lit (.int .i64 0),.lit (.string ⟨#[]⟩),.lit (.int .i64 0),.lit (.int .i64 0),.lit (.int .i64 0)]:=by kernel_rfl
theorem q32:szT Tryz.prog 105=some 6:=by kernel_rfl
theorem q33:fldT Tryz.prog 105 2=some (5,1,false):=by kernel_rfl
theorem q34:aggT Tryz.prog 24=some false:=by kernel_rfl
theorem q35:szT Tryz.prog 24=some 1:=by kernel_rfl
theorem q36:fldT Tryz.prog 105 0=some (0,4,true):=by kernel_rfl
theorem q37:aggT Tryz.prog 63=some true:=by kernel_rfl
theorem q38:szT Tryz.prog 63=some 4:=by kernel_rfl
theorem q39:apT Tryz.prog 64=some (4,40):=by kernel_rfl
theorem q40:slT Tryz.prog 64=some (4,40):=by kernel_rfl
theorem q41:strT Tryz.prog 64=false:=by kernel_rfl
theorem q42:fldT Tryz.prog 105 1=some (4,1,false):=by kernel_rfl
theorem q43:zeroP Tryz.prog 63=some [.lit (.int .i64 0),.lit (.int .i64 0),.lit (.string ⟨#[]⟩),.lit (.int .i64 0)]:=by kernel_rfl
theorem q44:(placeT Tryz.prog 63).isSome=true:=by kernel_rfl
theorem q45:plT Tryz.prog 63 0=some (0,1):=by kernel_rfl
theorem q46:plT Tryz.prog 63 1=some (1,1):=by kernel_rfl
theorem q47:plT Tryz.prog 63 2=some (2,1):=by kernel_rfl
theorem q48:plT Tryz.prog 63 3=some (3,1):=by kernel_rfl
theorem q49:fldT Tryz.prog 131 0=some (0,1,false):=by kernel_rfl
theorem q50:aggT Tryz.prog 9=some false:=by kernel_rfl
theorem q51:szT Tryz.prog 9=some 1:=by kernel_rfl
theorem q52:callT Tryz.prog 95=true:=by kernel_rfl
theorem q53:callT Tryz.prog 96=true:=by kernel_rfl
theorem q54:zeroP Tryz.prog 170=some [.lit .nilFunc,.lit .nilFunc,.lit .nilFunc,.lit .nilFunc]:=by kernel_rfl
theorem q55:(placeT Tryz.prog 170).isSome=true:=by kernel_rfl
theorem q56:plT Tryz.prog 170 0=some (0,1):=by kernel_rfl
theorem q57:plT Tryz.prog 170 1=some (1,1):=by kernel_rfl
theorem q58:plT Tryz.prog 170 2=some (2,1):=by kernel_rfl
theorem q59:plT Tryz.prog 170 3=some (3,1):=by kernel_rfl
theorem q60:callT Tryz.prog 97=true:=by kernel_rfl
theorem q61:callT Tryz.prog 98=true:=by kernel_rfl
theorem q62:callT Tryz.prog 99=true:=by kernel_rfl
theorem q63:callT Tryz.prog 100=true:=by kernel_rfl
theorem q64:strT Tryz.prog 170=false:=by kernel_rfl
theorem q65:arT Tryz.prog 170=some (4,1,false):=by kernel_rfl
theorem q66:aggT Tryz.prog 105=some true:=by kernel_rfl
theorem q67:callT Tryz.prog 78=true:=by kernel_rfl
theorem q68:callT Tryz.prog 79=true:=by kernel_rfl
theorem q69:callT Tryz.prog 80=true:=by kernel_rfl
theorem q70:callT Tryz.prog 81=true:=by kernel_rfl
theorem q71:callT Tryz.prog 82=true:=by kernel_rfl
theorem q72:callT Tryz.prog 83=true:=by kernel_rfl
theorem q73:zeroP Tryz.prog 105=some [.lit (.int .i64 0),.lit (.int .i64 0),.lit (.string ⟨#[]⟩),.lit (.int .i64 0),.lit (.int .i64 0),.lit (.int .i64 0)]:=by kernel_rfl
theorem q74:(placeT Tryz.prog 105).isSome=true:=by kernel_rfl
theorem q75:plT Tryz.prog 105 0=some (0,4):=by kernel_rfl
theorem q76:plT Tryz.prog 105 1=some (4,1):=by kernel_rfl
theorem q77:plT Tryz.prog 105 2=some (5,1):=by kernel_rfl
theorem q78:intT Tryz.prog 3=some .i64:=by kernel_rfl
theorem q79:(Tryz.prog.underlying 5).isSome=true:=by kernel_rfl
theorem q80:strT Tryz.prog 5=false:=by kernel_rfl
theorem q81:strT Tryz.prog 3=false:=by kernel_rfl
theorem q82:strT Tryz.prog 157=false:=by kernel_rfl
theorem q83:slT Tryz.prog 157=some (1,1):=by kernel_rfl
theorem q84:u8T Tryz.prog 157=true:=by kernel_rfl
theorem q85:callT Tryz.prog 102=true:=by kernel_rfl
theorem q86:apT Tryz.prog 157=some (1,1):=by kernel_rfl
theorem q87:apT Tryz.prog 42=some (1,16):=by kernel_rfl
theorem q88:callT Tryz.prog 103=true:=by kernel_rfl
theorem q89:zeroV Tryz.prog 63=some [.lit (.int .i64 0),.lit (.int .i64 0),.lit (.string ⟨#[]⟩),.lit (.int .i64 0)]:=by kernel_rfl
theorem q90:fldT Tryz.prog 63 0=some (0,1,false):=by kernel_rfl
theorem q91:fldT Tryz.prog 63 2=some (2,1,false):=by kernel_rfl
theorem q92:slT Tryz.prog 42=some (1,16):=by kernel_rfl
theorem q93:strT Tryz.prog 42=false:=by kernel_rfl
theorem q94:fldT Tryz.prog 63 3=some (3,1,false):=by kernel_rfl
theorem q95:callT Tryz.prog 64=true:=by kernel_rfl
theorem q96:callT Tryz.prog 65=true:=by kernel_rfl
theorem q97:callT Tryz.prog 66=true:=by kernel_rfl
theorem q98:callT Tryz.prog 67=true:=by kernel_rfl
theorem q99:callT Tryz.prog 111=true:=by kernel_rfl
theorem q100:callT Tryz.prog 112=true:=by kernel_rfl
theorem q101:callT Tryz.prog 113=true:=by kernel_rfl
theorem q102:ifcT Tryz.prog 161=true:=by kernel_rfl
theorem q103:callT Tryz.prog 114=true:=by kernel_rfl
theorem q104:callT Tryz.prog 115=true:=by kernel_rfl
theorem q105:callT Tryz.prog 116=true:=by kernel_rfl
theorem q106:concT Tryz.prog 9=true:=by kernel_rfl
theorem q107:zeroP Tryz.prog 154=some [.lit (.int .u32 0),.lit (.int .i32 0),.lit (.int .u32 0),.lit .nilIface,.sl [] .nil]:=by kernel_rfl
theorem q108:(placeT Tryz.prog 154).isSome=true:=by kernel_rfl
theorem q109:plT Tryz.prog 154 0=some (0,3):=by kernel_rfl
theorem q110:plT Tryz.prog 154 1=some (3,1):=by kernel_rfl
theorem q111:plT Tryz.prog 154 2=some (4,1):=by kernel_rfl
attribute [go_sem] q0 q1 q2 q3 q4 q5 q6 q7 q8 q9 q10 q11 q12 q13 q14 q15 q16 q17 q18 q19 q20 q21 q22 q23 q24 q25 q26 q27 q28 q29 q30 q31 q32 q33 q34 q35 q36 q37 q38 q39 q40 q41 q42 q43 q44 q45 q46 q47 q48 q49 q50 q51 q52 q53 q54 q55 q56 q57 q58 q59 q60 q61 q62 q63 q64 q65 q66 q67 q68 q69 q70 q71 q72 q73 q74 q75 q76 q77 q78 q79 q80 q81 q82 q83 q84 q85 q86 q87 q88 q89 q90 q91 q92 q93 q94 q95 q96 q97 q98 q99 q100 q101 q102 q103 q104 q105 q106 q107 q108 q109 q110 q111
theorem follows:Tryz.prog.follows .mixedOrders=true:=by kernel_rfl
theorem ok43:okCode [] Tryz.f43.ntmps (Tryz.f43.body.getD .skip)=true:=by kernel_rfl
theorem ok72:okCode [] Tryz.f72.ntmps (Tryz.f72.body.getD .skip)=true:=by kernel_rfl
theorem ok73:okCode [] Tryz.f73.ntmps (Tryz.f73.body.getD .skip)=true:=by kernel_rfl
theorem ok74:okCode [] Tryz.f74.ntmps (Tryz.f74.body.getD .skip)=true:=by kernel_rfl
theorem ok97:okCode [] Tryz.f97.ntmps (Tryz.f97.body.getD .skip)=true:=by kernel_rfl
theorem ok98:okCode [] Tryz.f98.ntmps (Tryz.f98.body.getD .skip)=true:=by kernel_rfl
theorem ok99:okCode [] Tryz.f99.ntmps (Tryz.f99.body.getD .skip)=true:=by kernel_rfl
theorem ok100:okCode [] Tryz.f100.ntmps (Tryz.f100.body.getD .skip)=true:=by kernel_rfl
theorem ok65:okCode [] Tryz.f65.ntmps (Tryz.f65.body.getD .skip)=true:=by kernel_rfl
theorem ok112:okCode [] Tryz.f112.ntmps (Tryz.f112.body.getD .skip)=true:=by kernel_rfl
theorem ok8:okCode [] Tryz.f8.ntmps (Tryz.f8.body.getD .skip)=true:=by kernel_rfl
theorem ok15:okCode [] Tryz.f15.ntmps (Tryz.f15.body.getD .skip)=true:=by kernel_rfl
theorem ok20:okCode [] Tryz.f20.ntmps (Tryz.f20.body.getD .skip)=true:=by kernel_rfl
theorem ok21:okCode [] Tryz.f21.ntmps (Tryz.f21.body.getD .skip)=true:=by kernel_rfl
theorem ok22:okCode [] Tryz.f22.ntmps (Tryz.f22.body.getD .skip)=true:=by kernel_rfl
theorem ok23:okCode [] Tryz.f23.ntmps (Tryz.f23.body.getD .skip)=true:=by kernel_rfl
theorem ok27:okCode [] Tryz.f27.ntmps (Tryz.f27.body.getD .skip)=true:=by kernel_rfl
theorem ok32:okCode [] Tryz.f32.ntmps (Tryz.f32.body.getD .skip)=true:=by kernel_rfl
theorem ok33:okCode [] Tryz.f33.ntmps (Tryz.f33.body.getD .skip)=true:=by kernel_rfl
theorem ok34:okCode [] Tryz.f34.ntmps (Tryz.f34.body.getD .skip)=true:=by kernel_rfl
theorem ok38:okCode [] Tryz.f38.ntmps (Tryz.f38.body.getD .skip)=true:=by kernel_rfl
theorem ok39:okCode [] Tryz.f39.ntmps (Tryz.f39.body.getD .skip)=true:=by kernel_rfl
theorem ok40:okCode [] Tryz.f40.ntmps (Tryz.f40.body.getD .skip)=true:=by kernel_rfl
theorem ok41:okCode [] Tryz.f41.ntmps (Tryz.f41.body.getD .skip)=true:=by kernel_rfl
theorem ok42:okCode [] Tryz.f42.ntmps (Tryz.f42.body.getD .skip)=true:=by kernel_rfl
theorem ok45:okCode [] Tryz.f45.ntmps (Tryz.f45.body.getD .skip)=true:=by kernel_rfl
theorem ok46:okCode [] Tryz.f46.ntmps (Tryz.f46.body.getD .skip)=true:=by kernel_rfl
theorem ok47:okCode [] Tryz.f47.ntmps (Tryz.f47.body.getD .skip)=true:=by kernel_rfl
theorem ok48:okCode [] Tryz.f48.ntmps (Tryz.f48.body.getD .skip)=true:=by kernel_rfl
theorem ok49:okCode [] Tryz.f49.ntmps (Tryz.f49.body.getD .skip)=true:=by kernel_rfl
theorem ok50:okCode [] Tryz.f50.ntmps (Tryz.f50.body.getD .skip)=true:=by kernel_rfl
theorem ok52:okCode [] Tryz.f52.ntmps (Tryz.f52.body.getD .skip)=true:=by kernel_rfl
theorem ok60:okCode [] Tryz.f60.ntmps (Tryz.f60.body.getD .skip)=true:=by kernel_rfl
theorem ok61:okCode [] Tryz.f61.ntmps (Tryz.f61.body.getD .skip)=true:=by kernel_rfl
theorem ok62:okCode [] Tryz.f62.ntmps (Tryz.f62.body.getD .skip)=true:=by kernel_rfl
theorem ok63:okCode [] Tryz.f63.ntmps (Tryz.f63.body.getD .skip)=true:=by kernel_rfl
theorem ok68:okCode [] Tryz.f68.ntmps (Tryz.f68.body.getD .skip)=true:=by kernel_rfl
theorem ok69:okCode [] Tryz.f69.ntmps (Tryz.f69.body.getD .skip)=true:=by kernel_rfl
theorem ok70:okCode [] Tryz.f70.ntmps (Tryz.f70.body.getD .skip)=true:=by kernel_rfl
theorem ok71:okCode [] Tryz.f71.ntmps (Tryz.f71.body.getD .skip)=true:=by kernel_rfl
theorem ok75:okCode [] Tryz.f75.ntmps (Tryz.f75.body.getD .skip)=true:=by kernel_rfl
theorem ok76:okCode [] Tryz.f76.ntmps (Tryz.f76.body.getD .skip)=true:=by kernel_rfl
theorem ok77:okCode [] Tryz.f77.ntmps (Tryz.f77.body.getD .skip)=true:=by kernel_rfl
theorem ok87:okCode [] Tryz.f87.ntmps (Tryz.f87.body.getD .skip)=true:=by kernel_rfl
theorem ok94:okCode [] Tryz.f94.ntmps (Tryz.f94.body.getD .skip)=true:=by kernel_rfl
theorem ok12:okCode [] Tryz.f12.ntmps (Tryz.f12.body.getD .skip)=true:=by kernel_rfl
theorem ok13:okCode [] Tryz.f13.ntmps (Tryz.f13.body.getD .skip)=true:=by kernel_rfl
theorem ok14:okCode [] Tryz.f14.ntmps (Tryz.f14.body.getD .skip)=true:=by kernel_rfl
theorem ok4:okCode [] Tryz.f4.ntmps (Tryz.f4.body.getD .skip)=true:=by kernel_rfl
end Go.Proofs.YtgdalmleogphgaaGreatDoor
namespace Go.Proofs.YtgdalmleogphgaaGreatDoor
open Go.RowKit Go.Q Go.Vl Go.Sp
set_option maxRecDepth 100000
set_option linter.unusedSimpArgs false
set_option maxHeartbeats 4000000
set_option linter.unusedVariables false
theorem vparse_operators_0 (r:(List parse_binary))(h:parse_operators=some r)(Q:AEnd->List (List PV)->Prop)(hQ:∀ y,y=oP r row_parse_binary->Q (.ret y) []) :
 VC Tryz.prog 70 [] [] Q:=by
 unfold parse_operators at h
 refine VC.intro ⟨[0],[]⟩ Tryz.func70 rfl follows ok70 (by rw [Tryz.ntmps70];exact lb rfl) ?_
 refine WS_ofR ?_
 refine zz ?_
 refine wn (nos 1 []) ⟨[(0,.sl [] .own)],[]⟩ tI ?_
 obtain⟨l,hl,h⟩:=bindS h
 have fb:([[tP ⟨#[42]⟩,iP 7,iP 6],[tP ⟨#[47]⟩,iP 8,iP 6],[tP ⟨#[37]⟩,iP 9,iP 6],[tP ⟨#[43]⟩,iP 10,iP 5],[tP ⟨#[45]⟩,iP 11,iP 5],[tP ⟨#[61,61]⟩,iP 12,iP 4],[tP ⟨#[33,61]⟩,iP 13,iP 4],[tP ⟨#[60]⟩,iP 14,iP 4],[tP ⟨#[60,61]⟩,iP 15,iP 4],[tP ⟨#[62]⟩,iP 16,iP 4],[tP ⟨#[62,61]⟩,iP 17,iP 4],[tP ⟨#[38,38]⟩,iP 18,iP 2],[tP ⟨#[124,124]⟩,iP 19,iP 1]]:List (List PV))=l.map row_parse_binary:=by rw [<- Option.some.inj hl];simp only [List.map_cons,List.map_nil,row_parse_binary_eq]
 refine wn (nos 13 (.val (oP l row_parse_binary)::(nos 1 []))) ⟨[(0,oP l row_parse_binary)],[]⟩ (aI (obuild rfl fb) tI) ?_
 cases h
 exact WS_ret (retK_own hQ (by kernel_rfl)).1
theorem vparse_operators (r:(List parse_binary))(h:parse_operators=some r):VCp Tryz.prog 70 [] (oP r row_parse_binary):=VC.finOwn (fun Q hQ=>vparse_operators_0 _ h Q hQ) rfl rfl
end Go.Proofs.YtgdalmleogphgaaGreatDoor
