/-
  DERIVED. GIVEN WITH THE SEED: THE CARDS: each row of YtehfpameijkafaaGreatDoorRows.lean that lists a variable, with what it lists TIED to the program's text (the seventh form; the later family's looks); each row that meets fmt, with fmt's text TOLD by the authors' own Lean function (tested against real Go, not proved from fmt's source: count such statements apart). THE CARD IS WHAT COUNTS. Prove the row's statement (the work); the ties are given (YtehfpameijkafaaGreatDoorTie.lean); close each card by the builder's one call (the guide's Derived/Test/ToyasCard.lean, 'card_holds'). Laid BY PROGRAM, IN A SANDBOX (cutbox-door.mjs). By AI agents, Wed Nov 11 2026. No macro, syntax, notation, axiom, sorry.
-/
import Derived.Test.YtehfpameijkafaaGreatDoorRows
import GoSem.ClaimSeven
namespace Go.Proofs.YtehfpameijkafaaGreatDoor
namespace Rows

/-- THE TIED CARD OF 'quietuslaw34.DutyIsAsSpecified'. -/
def dutyIsAsSpecifiedCard : Claim7 := { stood := { row := dutyIsAsSpecifiedRow, standIns := [], harness := (true, "673dcd30ec8db7c817da1f804c9ece45e71061c34b6c47a3f222b0f1336680dd"), looks := true }, kinds := [], alts := [], laidByText := true, laidKinds := [.data, .data, .data, .sentinel, .sentinel, .listed, .data], laidTests := true, laidLooks := .later }
def DutyIsAsSpecifiedCardSaid : Prop := Claim7.holds Tryz.pinned (.plain (OpenSpec.ofChange dutyIsAsSpecifiedSpec)) dutyIsAsSpecifiedCard

/-- THE TIED CARD OF 'quietuslaw34.DutyStretchesCover'. -/
def dutyStretchesCoverCard : Claim7 := { stood := { row := dutyStretchesCoverRow, standIns := [], harness := (true, "673dcd30ec8db7c817da1f804c9ece45e71061c34b6c47a3f222b0f1336680dd"), looks := true }, kinds := [], alts := [], laidByText := true, laidKinds := [.data, .data, .data, .sentinel, .sentinel, .listed, .data], laidTests := true, laidLooks := .later }
def DutyStretchesCoverCardSaid : Prop := Claim7.holds Tryz.pinned (.plain (OpenSpec.ofChange dutyStretchesCoverSpec)) dutyStretchesCoverCard

/-- THE TIED CARD OF 'quietuslaw34.DutyRanksDecide'. -/
def dutyRanksDecideCard : Claim7 := { stood := { row := dutyRanksDecideRow, standIns := [], harness := (true, "673dcd30ec8db7c817da1f804c9ece45e71061c34b6c47a3f222b0f1336680dd"), looks := true }, kinds := [], alts := [], laidByText := true, laidKinds := [.data, .data, .data, .sentinel, .sentinel, .listed, .data], laidTests := true, laidLooks := .later }
def DutyRanksDecideCardSaid : Prop := Claim7.holds Tryz.pinned (.plain (OpenSpec.ofChange dutyRanksDecideSpec)) dutyRanksDecideCard

/-- THE TIED CARD OF 'quietuslaw34.DutyKnowsTwoTimes'. -/
def dutyKnowsTwoTimesCard : Claim7 := { stood := { row := dutyKnowsTwoTimesRow, standIns := [], harness := (true, "673dcd30ec8db7c817da1f804c9ece45e71061c34b6c47a3f222b0f1336680dd"), looks := true }, kinds := [], alts := [], laidByText := true, laidKinds := [.data, .data, .data, .sentinel, .sentinel, .listed, .data], laidTests := true, laidLooks := .later }
def DutyKnowsTwoTimesCardSaid : Prop := Claim7.holds Tryz.pinned (.plain (OpenSpec.ofChange dutyKnowsTwoTimesSpec)) dutyKnowsTwoTimesCard

/-- THE TIED CARD OF 'quietuslaw34.DutyTellsAStory'. -/
def dutyTellsAStoryCard : Claim7 := { stood := { row := dutyTellsAStoryRow, standIns := [], harness := (true, "673dcd30ec8db7c817da1f804c9ece45e71061c34b6c47a3f222b0f1336680dd"), looks := true }, kinds := [], alts := [], laidByText := true, laidKinds := [.data, .data, .data, .sentinel, .sentinel, .listed, .data], laidTests := true, laidLooks := .later }
def DutyTellsAStoryCardSaid : Prop := Claim7.holds Tryz.pinned (.plain (OpenSpec.ofChange dutyTellsAStorySpec)) dutyTellsAStoryCard

/-- THE SECOND FORM's CARD OF 'quietuslaw34.DutyIsAsSpecified'. -/
def dutyIsAsSpecifiedUptoCard : Claim7 := { stood := { row := dutyIsAsSpecifiedUptoRow, standIns := [], harness := (true, "673dcd30ec8db7c817da1f804c9ece45e71061c34b6c47a3f222b0f1336680dd"), looks := true }, kinds := [], alts := [], laidByText := true, laidKinds := [.data, .data, .data, .sentinel, .sentinel, .listed, .data], laidTests := true, laidLooks := .later }
def DutyIsAsSpecifiedUptoCardSaid : Prop := Claim7.holds Tryz.pinned (.plain (OpenSpec.upto dutyIsAsSpecifiedSpec)) dutyIsAsSpecifiedUptoCard

/-- THE SECOND FORM's CARD OF 'quietuslaw34.DutyStretchesCover'. -/
def dutyStretchesCoverUptoCard : Claim7 := { stood := { row := dutyStretchesCoverUptoRow, standIns := [], harness := (true, "673dcd30ec8db7c817da1f804c9ece45e71061c34b6c47a3f222b0f1336680dd"), looks := true }, kinds := [], alts := [], laidByText := true, laidKinds := [.data, .data, .data, .sentinel, .sentinel, .listed, .data], laidTests := true, laidLooks := .later }
def DutyStretchesCoverUptoCardSaid : Prop := Claim7.holds Tryz.pinned (.plain (OpenSpec.upto dutyStretchesCoverSpec)) dutyStretchesCoverUptoCard

/-- THE SECOND FORM's CARD OF 'quietuslaw34.DutyRanksDecide'. -/
def dutyRanksDecideUptoCard : Claim7 := { stood := { row := dutyRanksDecideUptoRow, standIns := [], harness := (true, "673dcd30ec8db7c817da1f804c9ece45e71061c34b6c47a3f222b0f1336680dd"), looks := true }, kinds := [], alts := [], laidByText := true, laidKinds := [.data, .data, .data, .sentinel, .sentinel, .listed, .data], laidTests := true, laidLooks := .later }
def DutyRanksDecideUptoCardSaid : Prop := Claim7.holds Tryz.pinned (.plain (OpenSpec.upto dutyRanksDecideSpec)) dutyRanksDecideUptoCard

/-- THE SECOND FORM's CARD OF 'quietuslaw34.DutyKnowsTwoTimes'. -/
def dutyKnowsTwoTimesUptoCard : Claim7 := { stood := { row := dutyKnowsTwoTimesUptoRow, standIns := [], harness := (true, "673dcd30ec8db7c817da1f804c9ece45e71061c34b6c47a3f222b0f1336680dd"), looks := true }, kinds := [], alts := [], laidByText := true, laidKinds := [.data, .data, .data, .sentinel, .sentinel, .listed, .data], laidTests := true, laidLooks := .later }
def DutyKnowsTwoTimesUptoCardSaid : Prop := Claim7.holds Tryz.pinned (.plain (OpenSpec.upto dutyKnowsTwoTimesSpec)) dutyKnowsTwoTimesUptoCard

/-- THE SECOND FORM's CARD OF 'quietuslaw34.DutyTellsAStory'. -/
def dutyTellsAStoryUptoCard : Claim7 := { stood := { row := dutyTellsAStoryUptoRow, standIns := [], harness := (true, "673dcd30ec8db7c817da1f804c9ece45e71061c34b6c47a3f222b0f1336680dd"), looks := true }, kinds := [], alts := [], laidByText := true, laidKinds := [.data, .data, .data, .sentinel, .sentinel, .listed, .data], laidTests := true, laidLooks := .later }
def DutyTellsAStoryUptoCardSaid : Prop := Claim7.holds Tryz.pinned (.plain (OpenSpec.upto dutyTellsAStorySpec)) dutyTellsAStoryUptoCard
end Rows
end Go.Proofs.YtehfpameijkafaaGreatDoor
