/-
  The closed facts of the row of StatuteIsTyped. The specification's types are those that find finds. No program.
-/
import Derived.JoinedOf
import Derived.Test.YtkcfmlfkfagejaaGreatDoorU5
import Derived.Test.YtkcfmlfkfagejaaGreatDoorU16
namespace Go.Proofs.YtkcfmlfkfagejaaGreatDoor
open Go.ChangeShapes Go.WideShapes Go.ChangeAt Go.RowKit
set_option maxRecDepth 100000
theorem EW {a b:Bool}(h:a=true)(k:b=true):(a&&b)=true:=by rw [h,k];rfl
theorem XZ:(Rows.statuteIsTypedRow.wf (OpenSpec.ofChange Rows.statuteIsTypedSpec))=true:=by kernel_rfl
theorem XY:(laidOutB Tryz.prog)=true:=by kernel_rfl
theorem XX:(mapsRowed Tryz.prog)=true:=by kernel_rfl
theorem XW:(Tryz.f8.params.all (Tryz.prog.readableRec ·))=true:=by kernel_rfl
theorem XV:(namedTie Tryz.prog Rows.statuteIsTypedRow.named Rows.statuteIsTypedSpec.vars)=true:=by kernel_rfl
theorem XU:((Rows.statuteIsTypedRow.stops == []))=true:=by kernel_rfl
theorem XT:((Tryz.prog.stops == []))=true:=by kernel_rfl
theorem XS:((Rows.statuteIsTypedRow.knobs == []))=true:=by kernel_rfl
theorem XR:((Tryz.prog.stopKnobs == []))=true:=by kernel_rfl
theorem XQ:((Rows.statuteIsTypedRow.inPlace == Tryz.prog.inPlace 8))=true:=by kernel_rfl
theorem WN:((Rows.statuteIsTypedRow.unfollowed == Tryz.prog.unfollowed 8))=true:=by kernel_rfl
theorem WM:((Rows.statuteIsTypedRow.recurses == Tryz.prog.recurses 8))=true:=by kernel_rfl
theorem WL:((Rows.statuteIsTypedRow.named == Tryz.prog.varsNamed 8))=true:=by kernel_rfl
theorem WK:((Rows.statuteIsTypedRow.maps == (Tryz.f8.params.toList++Rows.statuteIsTypedSpec.plain.varTypes Tryz.prog).any (Tryz.prog.mapsRec ·)))=true:=by kernel_rfl
theorem WJ:((Rows.statuteIsTypedRow.ifaces == (Tryz.f8.params.toList++Rows.statuteIsTypedSpec.plain.varTypes Tryz.prog).any (Tryz.prog.ifacesRec ·)))=true:=by kernel_rfl
theorem WI:((Rows.statuteIsTypedRow.mapsOut == Tryz.prog.mapsAmong Tryz.f8.resultTypes.toList))=true:=by kernel_rfl
theorem WH:((Rows.statuteIsTypedRow.loops == (Tryz.f8.params.toList++Rows.statuteIsTypedSpec.plain.varTypes Tryz.prog).any (Tryz.prog.loopsFrom ·)))=true:=by kernel_rfl
theorem WG:((Rows.statuteIsTypedRow.wideKeys == (Tryz.f8.params.toList++Rows.statuteIsTypedSpec.plain.varTypes Tryz.prog++Tryz.f8.resultTypes.toList).any (Tryz.prog.wideKeysFrom ·)))=true:=by kernel_rfl
theorem WE:(Rows.statuteIsTypedSpec.vars.all (Tryz.prog.varReadable ·))=true:=by kernel_rfl
theorem WD:(Tryz.f8.resultTypes.all (fun t=>Tryz.prog.readableRec t&&decide (t<Tryz.prog.types.size)))=true:=by kernel_rfl
theorem WC:((Rows.statuteIsTypedRow.ifacesOut == Tryz.f8.resultTypes.toList.any (Tryz.prog.ifacesRec ·)))=true:=by kernel_rfl
theorem WB:((Rows.statuteIsTypedRow.loopsOut == Tryz.f8.resultTypes.toList.any (Tryz.prog.loopsFrom ·)))=true:=by kernel_rfl
theorem WA:((Rows.statuteIsTypedRow.plainKeys == Tryz.prog.plainKeys))=true:=by kernel_rfl
theorem W9:(Rows.statuteIsTypedRow.shortTexts.isNone)=true:=by kernel_rfl
theorem W8:(Tryz.prog.stopsHeard)=true:=by kernel_rfl
theorem W7:(Tryz.prog.mayEnter)=true:=by kernel_rfl
theorem W6:((Rows.statuteIsTypedRow.lifted == Tryz.prog.liftsFinal))=true:=by kernel_rfl
theorem W5:((Tryz.prog.make == some Rows.statuteIsTypedRow.make))=true:=by kernel_rfl
theorem W4:((Rows.statuteIsTypedRow.kinds == (if Rows.statuteIsTypedRow.domain.isEmpty then [] else Tryz.f8.params.toList.map fun t=>match Tryz.prog.underlying t with|some (.int k)=>some k|_=>none)))=true:=by kernel_rfl
theorem W3:((Rows.statuteIsTypedRow.pinned == Rows.statuteIsTypedRow.pinnedBy))=true:=by kernel_rfl
theorem W0:((Rows.statuteIsTypedRow.veiled == (Tryz.f8.params.toList++Rows.statuteIsTypedSpec.plain.varTypes Tryz.prog++Tryz.f8.resultTypes.toList).any (Tryz.prog.veiledRec ·)))=true:=by kernel_rfl
theorem Wz:(Rows.statuteIsTypedRow.veiledFits Tryz.prog Tryz.f8.params.toList (Tryz.f8.params.toList++Rows.statuteIsTypedSpec.plain.varTypes Tryz.prog++Tryz.f8.resultTypes.toList))=true:=by kernel_rfl
theorem YS:joinedFacts Tryz.prog 8 Tryz.f8 Rows.statuteIsTypedSpec Rows.statuteIsTypedRow=true:=(EW (EW (EW (EW (EW (EW (EW (EW (EW (EW (EW (EW (EW (EW (EW (EW (EW (EW (EW (EW (EW (EW (EW (EW (EW (EW (EW (EW (EW (EW (EW XZ XY) XX) XW) XV) XU) XT) XS) XR) XQ) WN) WM) WL) WK) WJ) WI) WH) WG) WE) WD) WC) WB) WA) W9) W8) W7) W6) W5) W4) W3) W0) Wz)
end Go.Proofs.YtkcfmlfkfagejaaGreatDoor
namespace Go.Sp
open Go
set_option maxRecDepth 100000
def Ud (t:Int):Prop:=1<=t/\t<=4
end Go.Sp
