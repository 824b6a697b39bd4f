/-
  The closed facts of the row of StatuteRoundTrip. The specification's types are those that find finds. No program.
-/
import Derived.JoinedOf
import Derived.Test.YtkcfmlfkfagejaaGreatDoorU5
import Derived.Test.YtkcfmlfkfagejaaGreatDoorU16
set_option linter.unusedVariables false
set_option linter.unusedSimpArgs false
namespace Go.Proofs.YtkcfmlfkfagejaaGreatDoor
open Go.ChangeShapes Go.WideShapes Go.ChangeAt Go.RowKit
set_option maxRecDepth 100000
theorem G5 {a b:Bool}(h:a=true)(k:b=true):(a&&b)=true:=by rw [h,k];rfl
theorem Aio:(Rows.statuteRoundTripRow.wf (OpenSpec.ofChange Rows.statuteRoundTripSpec))=true:=by kernel_rfl
theorem Ain:(laidOutB Tryz.prog)=true:=by kernel_rfl
theorem Aim:(mapsRowed Tryz.prog)=true:=by kernel_rfl
theorem Ail:(Tryz.f4.params.all (Tryz.prog.readableRec ·))=true:=by kernel_rfl
theorem Aik:(namedTie Tryz.prog Rows.statuteRoundTripRow.named Rows.statuteRoundTripSpec.vars)=true:=by kernel_rfl
theorem Aij:((Rows.statuteRoundTripRow.stops == []))=true:=by kernel_rfl
theorem Aii:((Tryz.prog.stops == []))=true:=by kernel_rfl
theorem Aih:((Rows.statuteRoundTripRow.knobs == []))=true:=by kernel_rfl
theorem Aig:((Tryz.prog.stopKnobs == []))=true:=by kernel_rfl
theorem Aif:((Rows.statuteRoundTripRow.inPlace == Tryz.prog.inPlace 4))=true:=by kernel_rfl
theorem Ag6:((Rows.statuteRoundTripRow.unfollowed == Tryz.prog.unfollowed 4))=true:=by kernel_rfl
theorem Ag5:((Rows.statuteRoundTripRow.recurses == Tryz.prog.recurses 4))=true:=by kernel_rfl
theorem Ag4:((Rows.statuteRoundTripRow.named == Tryz.prog.varsNamed 4))=true:=by kernel_rfl
theorem Ag3:((Rows.statuteRoundTripRow.maps == (Tryz.f4.params.toList++Rows.statuteRoundTripSpec.plain.varTypes Tryz.prog).any (Tryz.prog.mapsRec ·)))=true:=by kernel_rfl
theorem Ag2:((Rows.statuteRoundTripRow.ifaces == (Tryz.f4.params.toList++Rows.statuteRoundTripSpec.plain.varTypes Tryz.prog).any (Tryz.prog.ifacesRec ·)))=true:=by kernel_rfl
theorem Ag1:((Rows.statuteRoundTripRow.mapsOut == Tryz.prog.mapsAmong Tryz.f4.resultTypes.toList))=true:=by kernel_rfl
theorem Ag0:((Rows.statuteRoundTripRow.loops == (Tryz.f4.params.toList++Rows.statuteRoundTripSpec.plain.varTypes Tryz.prog).any (Tryz.prog.loopsFrom ·)))=true:=by kernel_rfl
theorem Agz:((Rows.statuteRoundTripRow.wideKeys == (Tryz.f4.params.toList++Rows.statuteRoundTripSpec.plain.varTypes Tryz.prog++Tryz.f4.resultTypes.toList).any (Tryz.prog.wideKeysFrom ·)))=true:=by kernel_rfl
theorem Agy:(Rows.statuteRoundTripSpec.vars.all (Tryz.prog.varReadable ·))=true:=by kernel_rfl
theorem Agx:(Tryz.f4.resultTypes.all (fun t=>Tryz.prog.readableRec t&&decide (t<Tryz.prog.types.size)))=true:=by kernel_rfl
theorem Agw:((Rows.statuteRoundTripRow.ifacesOut == Tryz.f4.resultTypes.toList.any (Tryz.prog.ifacesRec ·)))=true:=by kernel_rfl
theorem Agv:((Rows.statuteRoundTripRow.loopsOut == Tryz.f4.resultTypes.toList.any (Tryz.prog.loopsFrom ·)))=true:=by kernel_rfl
theorem Agu:((Rows.statuteRoundTripRow.plainKeys == Tryz.prog.plainKeys))=true:=by kernel_rfl
theorem Agt:(Rows.statuteRoundTripRow.shortTexts.isNone)=true:=by kernel_rfl
theorem Ags:(Tryz.prog.stopsHeard)=true:=by kernel_rfl
theorem Agr:(Tryz.prog.mayEnter)=true:=by kernel_rfl
theorem Agq:((Rows.statuteRoundTripRow.lifted == Tryz.prog.liftsFinal))=true:=by kernel_rfl
theorem Agp:((Tryz.prog.make == some Rows.statuteRoundTripRow.make))=true:=by kernel_rfl
theorem Ago:((Rows.statuteRoundTripRow.kinds == (if Rows.statuteRoundTripRow.domain.isEmpty then [] else Tryz.f4.params.toList.map fun t=>match Tryz.prog.underlying t with|some (.int k)=>some k|_=>none)))=true:=by kernel_rfl
theorem Agn:((Rows.statuteRoundTripRow.pinned == Rows.statuteRoundTripRow.pinnedBy))=true:=by kernel_rfl
theorem Agm:((Rows.statuteRoundTripRow.veiled == (Tryz.f4.params.toList++Rows.statuteRoundTripSpec.plain.varTypes Tryz.prog++Tryz.f4.resultTypes.toList).any (Tryz.prog.veiledRec ·)))=true:=by kernel_rfl
theorem Agl:(Rows.statuteRoundTripRow.veiledFits Tryz.prog Tryz.f4.params.toList (Tryz.f4.params.toList++Rows.statuteRoundTripSpec.plain.varTypes Tryz.prog++Tryz.f4.resultTypes.toList))=true:=by kernel_rfl
theorem jf4:joinedFacts Tryz.prog 4 Tryz.f4 Rows.statuteRoundTripSpec Rows.statuteRoundTripRow=true:=(G5 (G5 (G5 (G5 (G5 (G5 (G5 (G5 (G5 (G5 (G5 (G5 (G5 (G5 (G5 (G5 (G5 (G5 (G5 (G5 (G5 (G5 (G5 (G5 (G5 (G5 (G5 (G5 (G5 (G5 (G5 Aio Ain) Aim) Ail) Aik) Aij) Aii) Aih) Aig) Aif) Ag6) Ag5) Ag4) Ag3) Ag2) Ag1) Ag0) Agz) Agy) Agx) Agw) Agv) Agu) Agt) Ags) Agr) Agq) Agp) Ago) Agn) Agm) Agl)
end Go.Proofs.YtkcfmlfkfagejaaGreatDoor
namespace Go.Sp
open Go
set_option maxRecDepth 100000
theorem Ajw (a:Int)(l:List Int):gi (a::l) 0=some a:=rfl
theorem Ajv (a b:Int)(l:List Int):gi (a::b::l) 1=some b:=rfl
end Go.Sp
