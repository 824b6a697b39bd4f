/-
  What the walks in plain values ask of the program's types and functions.
-/
import Derived.Test.YtjfccohgkgcnfaaGreatDoorVC
import Derived.Test.YtjfccohgkgcnfaaGreatDoorChecked
namespace Go.Proofs.YtjfccohgkgcnfaaGreatDoor
open Go Go.Vl
theorem q0 : strT Tryz.prog 9 = true := by kernel_rfl
theorem q1 : callT Tryz.prog 11 = true := by kernel_rfl
theorem q2 : callT Tryz.prog 12 = true := by kernel_rfl
theorem q3 : zeroV Tryz.prog 26 = some [.lit (.int .i64 0), .lit (.int .i64 0)] := by kernel_rfl
theorem q4 : szT Tryz.prog 26 = some 2 := by kernel_rfl
theorem q5 : callT Tryz.prog 13 = true := by kernel_rfl
theorem q6 : zeroV Tryz.prog 30 = some [.sl [] .own, .lit (.int .i64 0), .lit (.int .i64 0)] := by kernel_rfl
theorem q7 : szT Tryz.prog 30 = some 3 := by kernel_rfl
theorem q8 : aggT Tryz.prog 26 = some true := by kernel_rfl
theorem q9 : fldT Tryz.prog 30 1 = some (1, 2, true) := by kernel_rfl
theorem q10 : flatT Tryz.prog 26 = some [1, 1] := by kernel_rfl
theorem q11 : strT Tryz.prog 23 = false := by kernel_rfl
theorem q12 : slT Tryz.prog 23 = some (4, 40) := by kernel_rfl
theorem q13 : fldT Tryz.prog 30 0 = some (0, 1, false) := by kernel_rfl
theorem q14 : aggT Tryz.prog 23 = some false := by kernel_rfl
theorem q15 : szT Tryz.prog 23 = some 1 := by kernel_rfl
theorem q16 : aggT Tryz.prog 33 = some true := by kernel_rfl
theorem q17 : szT Tryz.prog 33 = some 4 := by kernel_rfl
theorem q18 : flatT Tryz.prog 33 = some [1, 1, 2, 1] := by kernel_rfl
theorem q19 : fldT Tryz.prog 33 2 = some (2, 1, false) := by kernel_rfl
theorem q20 : aggT Tryz.prog 9 = some false := by kernel_rfl
theorem q21 : szT Tryz.prog 9 = some 1 := by kernel_rfl
theorem q22 : callT Tryz.prog 14 = true := by kernel_rfl
theorem q23 : callT Tryz.prog 15 = true := by kernel_rfl
theorem q24 : callT Tryz.prog 16 = true := by kernel_rfl
theorem q25 : zeroP Tryz.prog 40 = some [.lit (.int .i64 0), .lit (.int .i64 0)] := by kernel_rfl
theorem q26 : (placeT Tryz.prog 40).isSome = true := by kernel_rfl
theorem q27 : plT Tryz.prog 40 0 = some (0, 1) := by kernel_rfl
theorem q28 : plT Tryz.prog 40 1 = some (1, 1) := by kernel_rfl
theorem q29 : callT Tryz.prog 17 = true := by kernel_rfl
theorem q30 : flatT Tryz.prog 40 = some [1, 1] := by kernel_rfl
theorem q31 : fldT Tryz.prog 26 1 = some (1, 1, false) := by kernel_rfl
theorem q32 : aggT Tryz.prog 24 = some false := by kernel_rfl
theorem q33 : szT Tryz.prog 24 = some 1 := by kernel_rfl
theorem q34 : zeroP Tryz.prog 26 = some [.lit (.int .i64 0), .lit (.int .i64 0)] := by kernel_rfl
theorem q35 : (placeT Tryz.prog 26).isSome = true := by kernel_rfl
theorem q36 : plT Tryz.prog 26 0 = some (0, 1) := by kernel_rfl
theorem q37 : plT Tryz.prog 26 1 = some (1, 1) := by kernel_rfl
theorem q38 : callT Tryz.prog 18 = true := by kernel_rfl
theorem q39 : fldT Tryz.prog 26 0 = some (0, 1, false) := by kernel_rfl
theorem q40 : aggT Tryz.prog 3 = some false := by kernel_rfl
theorem q41 : szT Tryz.prog 3 = some 1 := by kernel_rfl
theorem q42 : zeroV Tryz.prog 33 = some [.lit (.int .i64 0), .lit (.int .i64 0), .lit (.string ⟨#[]⟩), .lit (.int .i64 0)] := by kernel_rfl
theorem q43 : fldT Tryz.prog 33 1 = some (1, 1, false) := by kernel_rfl
theorem q44 : arT Tryz.prog 45 = some (2, 1, false) := by kernel_rfl
theorem q45 : aggT Tryz.prog 5 = some false := by kernel_rfl
theorem q46 : szT Tryz.prog 5 = some 1 := by kernel_rfl
theorem q47 : intT Tryz.prog 3 = some .i64 := by kernel_rfl
theorem q48 : (Tryz.prog.underlying 5).isSome = true := by kernel_rfl
theorem q49 : strT Tryz.prog 5 = false := by kernel_rfl
theorem q50 : strT Tryz.prog 3 = false := by kernel_rfl
theorem q51 : apT Tryz.prog 46 = some (1, 1) := by kernel_rfl
theorem q52 : slT Tryz.prog 46 = some (1, 1) := by kernel_rfl
theorem q53 : strT Tryz.prog 46 = false := by kernel_rfl
theorem q54 : u8T Tryz.prog 46 = true := by kernel_rfl
theorem q55 : zeroP Tryz.prog 33 = some [.lit (.int .i64 0), .lit (.int .i64 0), .lit (.string ⟨#[]⟩), .lit (.int .i64 0)] := by kernel_rfl
theorem q56 : (placeT Tryz.prog 33).isSome = true := by kernel_rfl
theorem q57 : plT Tryz.prog 33 0 = some (0, 1) := by kernel_rfl
theorem q58 : plT Tryz.prog 33 1 = some (1, 1) := by kernel_rfl
theorem q59 : plT Tryz.prog 33 2 = some (2, 1) := by kernel_rfl
theorem q60 : plT Tryz.prog 33 3 = some (3, 1) := by kernel_rfl
theorem q61 : zeroP Tryz.prog 51 = some [.lit (.string ⟨#[]⟩), .lit (.int .i64 0), .sl [] .nil] := by kernel_rfl
theorem q62 : (placeT Tryz.prog 51).isSome = true := by kernel_rfl
theorem q63 : plT Tryz.prog 51 0 = some (0, 1) := by kernel_rfl
theorem q64 : plT Tryz.prog 51 1 = some (1, 1) := by kernel_rfl
theorem q65 : plT Tryz.prog 51 2 = some (2, 1) := by kernel_rfl
theorem q66 : callT Tryz.prog 20 = true := by kernel_rfl
theorem q67 : fldT Tryz.prog 51 1 = some (1, 1, false) := by kernel_rfl
theorem q68 : callT Tryz.prog 21 = true := by kernel_rfl
theorem q69 : callT Tryz.prog 22 = true := by kernel_rfl
theorem q70 : fldT Tryz.prog 51 2 = some (2, 1, false) := by kernel_rfl
theorem q71 : aggT Tryz.prog 30 = some true := by kernel_rfl
theorem q72 : zeroP Tryz.prog 30 = some [.sl [] .nil, .lit (.int .i64 0), .lit (.int .i64 0)] := by kernel_rfl
theorem q73 : (placeT Tryz.prog 30).isSome = true := by kernel_rfl
theorem q74 : plT Tryz.prog 30 0 = some (0, 1) := by kernel_rfl
theorem q75 : plT Tryz.prog 30 1 = some (1, 2) := by kernel_rfl
theorem q76 : callT Tryz.prog 19 = true := by kernel_rfl
theorem q77 : callT Tryz.prog 23 = true := by kernel_rfl
theorem q78 : zeroV Tryz.prog 55 = some [.lit (.int .i64 0), .lit (.int .i64 0), .lit (.string ⟨#[]⟩), .lit (.int .i64 0), .lit (.int .i64 0), .lit (.int .i64 0)] := by kernel_rfl
theorem q79 : szT Tryz.prog 55 = some 6 := by kernel_rfl
theorem q80 : fldT Tryz.prog 55 2 = some (5, 1, false) := by kernel_rfl
theorem q81 : fldT Tryz.prog 55 0 = some (0, 4, true) := by kernel_rfl
theorem q82 : apT Tryz.prog 23 = some (4, 40) := by kernel_rfl
theorem q83 : fldT Tryz.prog 55 1 = some (4, 1, false) := by kernel_rfl
theorem q84 : fldT Tryz.prog 33 0 = some (0, 1, false) := by kernel_rfl
theorem q85 : fldT Tryz.prog 33 3 = some (3, 1, false) := by kernel_rfl
theorem q86 : callT Tryz.prog 28 = true := by kernel_rfl
theorem q87 : callT Tryz.prog 29 = true := by kernel_rfl
theorem q88 : aggT Tryz.prog 40 = some true := by kernel_rfl
theorem q89 : szT Tryz.prog 40 = some 2 := by kernel_rfl
theorem q90 : zeroV Tryz.prog 40 = some [.lit (.int .i64 0), .lit (.int .i64 0)] := by kernel_rfl
theorem q91 : fldT Tryz.prog 40 1 = some (1, 1, false) := by kernel_rfl
theorem q92 : fldT Tryz.prog 40 0 = some (0, 1, false) := by kernel_rfl
theorem q93 : fldT Tryz.prog 51 0 = some (0, 1, false) := by kernel_rfl
theorem q94 : callT Tryz.prog 30 = true := by kernel_rfl
theorem q95 : callT Tryz.prog 31 = true := by kernel_rfl
theorem q96 : zeroP Tryz.prog 67 = some [.lit .nilFunc, .lit .nilFunc, .lit .nilFunc, .lit .nilFunc] := by kernel_rfl
theorem q97 : (placeT Tryz.prog 67).isSome = true := by kernel_rfl
theorem q98 : plT Tryz.prog 67 0 = some (0, 1) := by kernel_rfl
theorem q99 : plT Tryz.prog 67 1 = some (1, 1) := by kernel_rfl
theorem q100 : plT Tryz.prog 67 2 = some (2, 1) := by kernel_rfl
theorem q101 : plT Tryz.prog 67 3 = some (3, 1) := by kernel_rfl
theorem q102 : callT Tryz.prog 32 = true := by kernel_rfl
theorem q103 : callT Tryz.prog 33 = true := by kernel_rfl
theorem q104 : callT Tryz.prog 34 = true := by kernel_rfl
theorem q105 : callT Tryz.prog 35 = true := by kernel_rfl
theorem q106 : strT Tryz.prog 67 = false := by kernel_rfl
theorem q107 : arT Tryz.prog 67 = some (4, 1, false) := by kernel_rfl
theorem q108 : aggT Tryz.prog 55 = some true := by kernel_rfl
theorem q109 : callT Tryz.prog 36 = true := by kernel_rfl
theorem q110 : callT Tryz.prog 37 = true := by kernel_rfl
theorem q111 : callT Tryz.prog 38 = true := by kernel_rfl
theorem q112 : callT Tryz.prog 39 = true := by kernel_rfl
theorem q113 : callT Tryz.prog 40 = true := by kernel_rfl
theorem q114 : callT Tryz.prog 41 = true := by kernel_rfl
theorem q115 : zeroP Tryz.prog 55 = some [.lit (.int .i64 0), .lit (.int .i64 0), .lit (.string ⟨#[]⟩), .lit (.int .i64 0), .lit (.int .i64 0), .lit (.int .i64 0)] := by kernel_rfl
theorem q116 : (placeT Tryz.prog 55).isSome = true := by kernel_rfl
theorem q117 : plT Tryz.prog 55 0 = some (0, 4) := by kernel_rfl
theorem q118 : plT Tryz.prog 55 1 = some (4, 1) := by kernel_rfl
theorem q119 : plT Tryz.prog 55 2 = some (5, 1) := by kernel_rfl
theorem q120 : intT Tryz.prog 5 = some .u8 := by kernel_rfl
theorem q121 : (Tryz.prog.underlying 3).isSome = true := by kernel_rfl
theorem q122 : callT Tryz.prog 49 = true := by kernel_rfl
theorem q123 : callT Tryz.prog 50 = true := by kernel_rfl
theorem q124 : ifcT Tryz.prog 92 = true := by kernel_rfl
theorem q125 : callT Tryz.prog 51 = true := by kernel_rfl
theorem q126 : strT Tryz.prog 57 = false := by kernel_rfl
theorem q127 : slT Tryz.prog 57 = some (1, 16) := by kernel_rfl
theorem q128 : callT Tryz.prog 52 = true := by kernel_rfl
theorem q129 : callT Tryz.prog 53 = true := by kernel_rfl
theorem q130 : callT Tryz.prog 54 = true := by kernel_rfl
theorem q131 : apT Tryz.prog 57 = some (1, 16) := by kernel_rfl
theorem q132 : callT Tryz.prog 55 = true := by kernel_rfl
attribute [go_sem] q0 q1 q2 q3 q4 q5 q6 q7 q8 q9 q10 q11 q12 q13 q14 q15 q16 q17 q18 q19 q20 q21 q22 q23 q24 q25 q26 q27 q28 q29 q30 q31 q32 q33 q34 q35 q36 q37 q38 q39 q40 q41 q42 q43 q44 q45 q46 q47 q48 q49 q50 q51 q52 q53 q54 q55 q56 q57 q58 q59 q60 q61 q62 q63 q64 q65 q66 q67 q68 q69 q70 q71 q72 q73 q74 q75 q76 q77 q78 q79 q80 q81 q82 q83 q84 q85 q86 q87 q88 q89 q90 q91 q92 q93 q94 q95 q96 q97 q98 q99 q100 q101 q102 q103 q104 q105 q106 q107 q108 q109 q110 q111 q112 q113 q114 q115 q116 q117 q118 q119 q120 q121 q122 q123 q124 q125 q126 q127 q128 q129 q130 q131 q132
theorem follows : Tryz.prog.follows .mixedOrders = true := by kernel_rfl
theorem ok3 : okCode [] Tryz.f3.ntmps (Tryz.f3.body.getD .skip) = true := by kernel_rfl
theorem ok4 : okCode [] Tryz.f4.ntmps (Tryz.f4.body.getD .skip) = true := by kernel_rfl
theorem ok5 : okCode [] Tryz.f5.ntmps (Tryz.f5.body.getD .skip) = true := by kernel_rfl
theorem ok6 : okCode [] Tryz.f6.ntmps (Tryz.f6.body.getD .skip) = true := by kernel_rfl
theorem ok7 : okCode [] Tryz.f7.ntmps (Tryz.f7.body.getD .skip) = true := by kernel_rfl
theorem ok8 : okCode [] Tryz.f8.ntmps (Tryz.f8.body.getD .skip) = true := by kernel_rfl
theorem ok9 : okCode [] Tryz.f9.ntmps (Tryz.f9.body.getD .skip) = true := by kernel_rfl
theorem ok11 : okCode [] Tryz.f11.ntmps (Tryz.f11.body.getD .skip) = true := by kernel_rfl
theorem ok12 : okCode [] Tryz.f12.ntmps (Tryz.f12.body.getD .skip) = true := by kernel_rfl
theorem ok13 : okCode [] Tryz.f13.ntmps (Tryz.f13.body.getD .skip) = true := by kernel_rfl
theorem ok15 : okCode [] Tryz.f15.ntmps (Tryz.f15.body.getD .skip) = true := by kernel_rfl
theorem ok16 : okCode [] Tryz.f16.ntmps (Tryz.f16.body.getD .skip) = true := by kernel_rfl
theorem ok17 : okCode [] Tryz.f17.ntmps (Tryz.f17.body.getD .skip) = true := by kernel_rfl
theorem ok18 : okCode [] Tryz.f18.ntmps (Tryz.f18.body.getD .skip) = true := by kernel_rfl
theorem ok19 : okCode [] Tryz.f19.ntmps (Tryz.f19.body.getD .skip) = true := by kernel_rfl
theorem ok20 : okCode [] Tryz.f20.ntmps (Tryz.f20.body.getD .skip) = true := by kernel_rfl
theorem ok21 : okCode [] Tryz.f21.ntmps (Tryz.f21.body.getD .skip) = true := by kernel_rfl
theorem ok22 : okCode [] Tryz.f22.ntmps (Tryz.f22.body.getD .skip) = true := by kernel_rfl
theorem ok23 : okCode [] Tryz.f23.ntmps (Tryz.f23.body.getD .skip) = true := by kernel_rfl
theorem ok28 : okCode [] Tryz.f28.ntmps (Tryz.f28.body.getD .skip) = true := by kernel_rfl
theorem ok29 : okCode [] Tryz.f29.ntmps (Tryz.f29.body.getD .skip) = true := by kernel_rfl
theorem ok31 : okCode [] Tryz.f31.ntmps (Tryz.f31.body.getD .skip) = true := by kernel_rfl
theorem ok32 : okCode [] Tryz.f32.ntmps (Tryz.f32.body.getD .skip) = true := by kernel_rfl
theorem ok33 : okCode [] Tryz.f33.ntmps (Tryz.f33.body.getD .skip) = true := by kernel_rfl
theorem ok34 : okCode [] Tryz.f34.ntmps (Tryz.f34.body.getD .skip) = true := by kernel_rfl
theorem ok35 : okCode [] Tryz.f35.ntmps (Tryz.f35.body.getD .skip) = true := by kernel_rfl
theorem ok36 : okCode [] Tryz.f36.ntmps (Tryz.f36.body.getD .skip) = true := by kernel_rfl
theorem ok37 : okCode [] Tryz.f37.ntmps (Tryz.f37.body.getD .skip) = true := by kernel_rfl
theorem ok38 : okCode [] Tryz.f38.ntmps (Tryz.f38.body.getD .skip) = true := by kernel_rfl
theorem ok39 : okCode [] Tryz.f39.ntmps (Tryz.f39.body.getD .skip) = true := by kernel_rfl
theorem ok40 : okCode [] Tryz.f40.ntmps (Tryz.f40.body.getD .skip) = true := by kernel_rfl
theorem ok41 : okCode [] Tryz.f41.ntmps (Tryz.f41.body.getD .skip) = true := by kernel_rfl
theorem ok49 : okCode [] Tryz.f49.ntmps (Tryz.f49.body.getD .skip) = true := by kernel_rfl
theorem ok54 : okCode [] Tryz.f54.ntmps (Tryz.f54.body.getD .skip) = true := by kernel_rfl
theorem ok55 : okCode [] Tryz.f55.ntmps (Tryz.f55.body.getD .skip) = true := by kernel_rfl
end Go.Proofs.YtjfccohgkgcnfaaGreatDoor
