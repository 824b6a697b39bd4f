/-
  The closed facts of the row of StatuteIsChecked. The specification's types are those that find finds. No program.
-/
import Derived.JoinedOf
import Derived.Test.YtkcfmlfkfagejaaGreatDoorU5
import Derived.Test.YtkcfmlfkfagejaaGreatDoorU16
set_option linter.unusedVariables false
set_option linter.unusedSimpArgs false
namespace Go.Proofs.YtkcfmlfkfagejaaGreatDoor
open Go.ChangeShapes Go.WideShapes Go.ChangeAt Go.RowKit
set_option maxRecDepth 100000
theorem FA {a b:Bool}(h:a=true)(k:b=true):(a&&b)=true:=by rw [h,k];rfl
theorem Abl:(Rows.statuteIsCheckedRow.wf (OpenSpec.ofChange Rows.statuteIsCheckedSpec))=true:=by kernel_rfl
theorem Abk:(laidOutB Tryz.prog)=true:=by kernel_rfl
theorem Abj:(mapsRowed Tryz.prog)=true:=by kernel_rfl
theorem Abi:(Tryz.f5.params.all (Tryz.prog.readableRec ·))=true:=by kernel_rfl
theorem Abh:(namedTie Tryz.prog Rows.statuteIsCheckedRow.named Rows.statuteIsCheckedSpec.vars)=true:=by kernel_rfl
theorem Abg:((Rows.statuteIsCheckedRow.stops == []))=true:=by kernel_rfl
theorem Abf:((Tryz.prog.stops == []))=true:=by kernel_rfl
theorem Abe:((Rows.statuteIsCheckedRow.knobs == []))=true:=by kernel_rfl
theorem Abd:((Tryz.prog.stopKnobs == []))=true:=by kernel_rfl
theorem Abc:((Rows.statuteIsCheckedRow.inPlace == Tryz.prog.inPlace 5))=true:=by kernel_rfl
theorem Z4:((Rows.statuteIsCheckedRow.unfollowed == Tryz.prog.unfollowed 5))=true:=by kernel_rfl
theorem Z3:((Rows.statuteIsCheckedRow.recurses == Tryz.prog.recurses 5))=true:=by kernel_rfl
theorem Z2:((Rows.statuteIsCheckedRow.named == Tryz.prog.varsNamed 5))=true:=by kernel_rfl
theorem Z1:((Rows.statuteIsCheckedRow.maps == (Tryz.f5.params.toList++Rows.statuteIsCheckedSpec.plain.varTypes Tryz.prog).any (Tryz.prog.mapsRec ·)))=true:=by kernel_rfl
theorem Z0:((Rows.statuteIsCheckedRow.ifaces == (Tryz.f5.params.toList++Rows.statuteIsCheckedSpec.plain.varTypes Tryz.prog).any (Tryz.prog.ifacesRec ·)))=true:=by kernel_rfl
theorem Zz:((Rows.statuteIsCheckedRow.mapsOut == Tryz.prog.mapsAmong Tryz.f5.resultTypes.toList))=true:=by kernel_rfl
theorem Zy:((Rows.statuteIsCheckedRow.loops == (Tryz.f5.params.toList++Rows.statuteIsCheckedSpec.plain.varTypes Tryz.prog).any (Tryz.prog.loopsFrom ·)))=true:=by kernel_rfl
theorem Zx:((Rows.statuteIsCheckedRow.wideKeys == (Tryz.f5.params.toList++Rows.statuteIsCheckedSpec.plain.varTypes Tryz.prog++Tryz.f5.resultTypes.toList).any (Tryz.prog.wideKeysFrom ·)))=true:=by kernel_rfl
theorem Zw:(Rows.statuteIsCheckedSpec.vars.all (Tryz.prog.varReadable ·))=true:=by kernel_rfl
theorem Zv:(Tryz.f5.resultTypes.all (fun t=>Tryz.prog.readableRec t&&decide (t<Tryz.prog.types.size)))=true:=by kernel_rfl
theorem Zu:((Rows.statuteIsCheckedRow.ifacesOut == Tryz.f5.resultTypes.toList.any (Tryz.prog.ifacesRec ·)))=true:=by kernel_rfl
theorem Zt:((Rows.statuteIsCheckedRow.loopsOut == Tryz.f5.resultTypes.toList.any (Tryz.prog.loopsFrom ·)))=true:=by kernel_rfl
theorem Zs:((Rows.statuteIsCheckedRow.plainKeys == Tryz.prog.plainKeys))=true:=by kernel_rfl
theorem Zr:(Rows.statuteIsCheckedRow.shortTexts.isNone)=true:=by kernel_rfl
theorem Zq:(Tryz.prog.stopsHeard)=true:=by kernel_rfl
theorem Zp:(Tryz.prog.mayEnter)=true:=by kernel_rfl
theorem Zo:((Rows.statuteIsCheckedRow.lifted == Tryz.prog.liftsFinal))=true:=by kernel_rfl
theorem Zn:((Tryz.prog.make == some Rows.statuteIsCheckedRow.make))=true:=by kernel_rfl
theorem Zm:((Rows.statuteIsCheckedRow.kinds == (if Rows.statuteIsCheckedRow.domain.isEmpty then [] else Tryz.f5.params.toList.map fun t=>match Tryz.prog.underlying t with|some (.int k)=>some k|_=>none)))=true:=by kernel_rfl
theorem Zl:((Rows.statuteIsCheckedRow.pinned == Rows.statuteIsCheckedRow.pinnedBy))=true:=by kernel_rfl
theorem Zk:((Rows.statuteIsCheckedRow.veiled == (Tryz.f5.params.toList++Rows.statuteIsCheckedSpec.plain.varTypes Tryz.prog++Tryz.f5.resultTypes.toList).any (Tryz.prog.veiledRec ·)))=true:=by kernel_rfl
theorem Zj:(Rows.statuteIsCheckedRow.veiledFits Tryz.prog Tryz.f5.params.toList (Tryz.f5.params.toList++Rows.statuteIsCheckedSpec.plain.varTypes Tryz.prog++Tryz.f5.resultTypes.toList))=true:=by kernel_rfl
theorem jf5:joinedFacts Tryz.prog 5 Tryz.f5 Rows.statuteIsCheckedSpec Rows.statuteIsCheckedRow=true:=(FA (FA (FA (FA (FA (FA (FA (FA (FA (FA (FA (FA (FA (FA (FA (FA (FA (FA (FA (FA (FA (FA (FA (FA (FA (FA (FA (FA (FA (FA (FA Abl Abk) Abj) Abi) Abh) Abg) Abf) Abe) Abd) Abc) Z4) Z3) Z2) Z1) Z0) Zz) Zy) Zx) Zw) Zv) Zu) Zt) Zs) Zr) Zq) Zp) Zo) Zn) Zm) Zl) Zk) Zj)
end Go.Proofs.YtkcfmlfkfagejaaGreatDoor
namespace Go.Sp
open Go
set_option maxRecDepth 100000
theorem Acv (a:Int)(l:List Int):gi (a::l) 0=some a:=rfl
theorem Acu (a b:Int)(l:List Int):gi (a::b::l) 1=some b:=rfl
end Go.Sp
