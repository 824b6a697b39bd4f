/-
  The closed facts of the row of StatuteLearns. The specification's types are those that find finds. No program.
-/
import Derived.JoinedOf
import Derived.Test.YtkcfmlfkfagejaaGreatDoorU5
import Derived.Test.YtkcfmlfkfagejaaGreatDoorU16
set_option linter.unusedVariables false
set_option linter.unusedSimpArgs false
namespace Go.Proofs.YtkcfmlfkfagejaaGreatDoor
open Go.ChangeShapes Go.WideShapes Go.ChangeAt Go.RowKit
set_option maxRecDepth 100000
theorem EU {a b:Bool}(h:a=true)(k:b=true):(a&&b)=true:=by rw [h,k];rfl
theorem Yh:(Rows.statuteLearnsRow.wf (OpenSpec.ofChange Rows.statuteLearnsSpec))=true:=by kernel_rfl
theorem Yg:(laidOutB Tryz.prog)=true:=by kernel_rfl
theorem Yf:(mapsRowed Tryz.prog)=true:=by kernel_rfl
theorem Ye:(Tryz.f6.params.all (Tryz.prog.readableRec ·))=true:=by kernel_rfl
theorem Yd:(namedTie Tryz.prog Rows.statuteLearnsRow.named Rows.statuteLearnsSpec.vars)=true:=by kernel_rfl
theorem Yc:((Rows.statuteLearnsRow.stops == []))=true:=by kernel_rfl
theorem Yb:((Tryz.prog.stops == []))=true:=by kernel_rfl
theorem Ya:((Rows.statuteLearnsRow.knobs == []))=true:=by kernel_rfl
theorem XZ:((Tryz.prog.stopKnobs == []))=true:=by kernel_rfl
theorem XY:((Rows.statuteLearnsRow.inPlace == Tryz.prog.inPlace 6))=true:=by kernel_rfl
theorem WY:((Rows.statuteLearnsRow.unfollowed == Tryz.prog.unfollowed 6))=true:=by kernel_rfl
theorem WW:((Rows.statuteLearnsRow.recurses == Tryz.prog.recurses 6))=true:=by kernel_rfl
theorem WV:((Rows.statuteLearnsRow.named == Tryz.prog.varsNamed 6))=true:=by kernel_rfl
theorem WU:((Rows.statuteLearnsRow.maps == (Tryz.f6.params.toList++Rows.statuteLearnsSpec.plain.varTypes Tryz.prog).any (Tryz.prog.mapsRec ·)))=true:=by kernel_rfl
theorem WT:((Rows.statuteLearnsRow.ifaces == (Tryz.f6.params.toList++Rows.statuteLearnsSpec.plain.varTypes Tryz.prog).any (Tryz.prog.ifacesRec ·)))=true:=by kernel_rfl
theorem WR:((Rows.statuteLearnsRow.mapsOut == Tryz.prog.mapsAmong Tryz.f6.resultTypes.toList))=true:=by kernel_rfl
theorem WQ:((Rows.statuteLearnsRow.loops == (Tryz.f6.params.toList++Rows.statuteLearnsSpec.plain.varTypes Tryz.prog).any (Tryz.prog.loopsFrom ·)))=true:=by kernel_rfl
theorem WO:((Rows.statuteLearnsRow.wideKeys == (Tryz.f6.params.toList++Rows.statuteLearnsSpec.plain.varTypes Tryz.prog++Tryz.f6.resultTypes.toList).any (Tryz.prog.wideKeysFrom ·)))=true:=by kernel_rfl
theorem WN:(Rows.statuteLearnsSpec.vars.all (Tryz.prog.varReadable ·))=true:=by kernel_rfl
theorem WM:(Tryz.f6.resultTypes.all (fun t=>Tryz.prog.readableRec t&&decide (t<Tryz.prog.types.size)))=true:=by kernel_rfl
theorem WL:((Rows.statuteLearnsRow.ifacesOut == Tryz.f6.resultTypes.toList.any (Tryz.prog.ifacesRec ·)))=true:=by kernel_rfl
theorem WK:((Rows.statuteLearnsRow.loopsOut == Tryz.f6.resultTypes.toList.any (Tryz.prog.loopsFrom ·)))=true:=by kernel_rfl
theorem WJ:((Rows.statuteLearnsRow.plainKeys == Tryz.prog.plainKeys))=true:=by kernel_rfl
theorem WI:(Rows.statuteLearnsRow.shortTexts.isNone)=true:=by kernel_rfl
theorem WH:(Tryz.prog.stopsHeard)=true:=by kernel_rfl
theorem WG:(Tryz.prog.mayEnter)=true:=by kernel_rfl
theorem WE:((Rows.statuteLearnsRow.lifted == Tryz.prog.liftsFinal))=true:=by kernel_rfl
theorem WD:((Tryz.prog.make == some Rows.statuteLearnsRow.make))=true:=by kernel_rfl
theorem WC:((Rows.statuteLearnsRow.kinds == (if Rows.statuteLearnsRow.domain.isEmpty then [] else Tryz.f6.params.toList.map fun t=>match Tryz.prog.underlying t with|some (.int k)=>some k|_=>none)))=true:=by kernel_rfl
theorem WB:((Rows.statuteLearnsRow.pinned == Rows.statuteLearnsRow.pinnedBy))=true:=by kernel_rfl
theorem WA:((Rows.statuteLearnsRow.veiled == (Tryz.f6.params.toList++Rows.statuteLearnsSpec.plain.varTypes Tryz.prog++Tryz.f6.resultTypes.toList).any (Tryz.prog.veiledRec ·)))=true:=by kernel_rfl
theorem W9:(Rows.statuteLearnsRow.veiledFits Tryz.prog Tryz.f6.params.toList (Tryz.f6.params.toList++Rows.statuteLearnsSpec.plain.varTypes Tryz.prog++Tryz.f6.resultTypes.toList))=true:=by kernel_rfl
theorem Za:joinedFacts Tryz.prog 6 Tryz.f6 Rows.statuteLearnsSpec Rows.statuteLearnsRow=true:=(EU (EU (EU (EU (EU (EU (EU (EU (EU (EU (EU (EU (EU (EU (EU (EU (EU (EU (EU (EU (EU (EU (EU (EU (EU (EU (EU (EU (EU (EU (EU Yh Yg) Yf) Ye) Yd) Yc) Yb) Ya) XZ) XY) WY) WW) WV) WU) WT) WR) WQ) WO) WN) WM) WL) WK) WJ) WI) WH) WG) WE) WD) WC) WB) WA) W9)
end Go.Proofs.YtkcfmlfkfagejaaGreatDoor

