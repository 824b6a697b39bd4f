/-
  DERIVED. GIVEN WITH THE SEED: THE CARDS: each row of YtkcfmlfkfagejaaGreatDoorRows.lean that lists a variable, with what it lists TIED to the program's text (the seventh form; the later family's looks); each row that meets fmt, with fmt's text TOLD by the authors' own Lean function (tested against real Go, not proved from fmt's source: count such statements apart). THE CARD IS WHAT COUNTS. Prove the row's statement (the work); the ties are given (YtkcfmlfkfagejaaGreatDoorTie.lean); close each card by the builder's one call (the guide's Derived/Test/ToyasCard.lean, 'card_holds'). Laid BY PROGRAM, IN A SANDBOX (cutbox-door.mjs). By AI agents, Wed Nov 11 2026. No macro, syntax, notation, axiom, sorry.
-/
import Derived.Test.YtkcfmlfkfagejaaGreatDoorRows
import GoSem.ClaimSeven
namespace Go.Proofs.YtkcfmlfkfagejaaGreatDoor
namespace Rows

/-- THE TIED CARD OF 'quietuslaw33.StatuteValuesAsSpecified'. -/
def statuteValuesAsSpecifiedCard : Claim7 := { stood := { row := statuteValuesAsSpecifiedRow, standIns := [], harness := (true, "998684024863164fcd98a781fa86bdad5a92fa36aace66a0ffa8713220559c68"), looks := true }, kinds := [], alts := [], laidByText := true, laidKinds := [.data, .data, .data, .sentinel, .sentinel, .listed, .data], laidTests := true, laidLooks := .later }
def StatuteValuesAsSpecifiedCardSaid : Prop := Claim7.holds Tryz.pinned (.plain (OpenSpec.ofChange statuteValuesAsSpecifiedSpec)) statuteValuesAsSpecifiedCard

/-- THE TIED CARD OF 'quietuslaw33.StatuteRoundTrip'. -/
def statuteRoundTripCard : Claim7 := { stood := { row := statuteRoundTripRow, standIns := [], harness := (true, "998684024863164fcd98a781fa86bdad5a92fa36aace66a0ffa8713220559c68"), looks := true }, kinds := [], alts := [], laidByText := true, laidKinds := [.data, .data, .data, .sentinel, .sentinel, .listed, .data], laidTests := true, laidLooks := .later }
def StatuteRoundTripCardSaid : Prop := Claim7.holds Tryz.pinned (.plain (OpenSpec.ofChange statuteRoundTripSpec)) statuteRoundTripCard

/-- THE TIED CARD OF 'quietuslaw33.StatuteIsChecked'. -/
def statuteIsCheckedCard : Claim7 := { stood := { row := statuteIsCheckedRow, standIns := [], harness := (true, "998684024863164fcd98a781fa86bdad5a92fa36aace66a0ffa8713220559c68"), looks := true }, kinds := [], alts := [], laidByText := true, laidKinds := [.data, .data, .data, .sentinel, .sentinel, .listed, .data], laidTests := true, laidLooks := .later }
def StatuteIsCheckedCardSaid : Prop := Claim7.holds Tryz.pinned (.plain (OpenSpec.ofChange statuteIsCheckedSpec)) statuteIsCheckedCard

/-- THE TIED CARD OF 'quietuslaw33.StatuteLearns'. -/
def statuteLearnsCard : Claim7 := { stood := { row := statuteLearnsRow, standIns := [], harness := (true, "998684024863164fcd98a781fa86bdad5a92fa36aace66a0ffa8713220559c68"), looks := true }, kinds := [], alts := [], laidByText := true, laidKinds := [.data, .data, .data, .sentinel, .sentinel, .listed, .data], laidTests := true, laidLooks := .later }
def StatuteLearnsCardSaid : Prop := Claim7.holds Tryz.pinned (.plain (OpenSpec.ofChange statuteLearnsSpec)) statuteLearnsCard

/-- THE TIED CARD OF 'quietuslaw33.StatuteChecksAsSpecified'. -/
def statuteChecksAsSpecifiedCard : Claim7 := { stood := { row := statuteChecksAsSpecifiedRow, standIns := [], harness := (true, "998684024863164fcd98a781fa86bdad5a92fa36aace66a0ffa8713220559c68"), looks := true }, kinds := [], alts := [], laidByText := true, laidKinds := [.data, .data, .data, .sentinel, .sentinel, .listed, .data], laidTests := true, laidLooks := .later }
def StatuteChecksAsSpecifiedCardSaid : Prop := Claim7.holds Tryz.pinned (.plain (OpenSpec.ofChange statuteChecksAsSpecifiedSpec)) statuteChecksAsSpecifiedCard

/-- THE TIED CARD OF 'quietuslaw33.StatuteIsTyped'. -/
def statuteIsTypedCard : Claim7 := { stood := { row := statuteIsTypedRow, standIns := [], harness := (true, "998684024863164fcd98a781fa86bdad5a92fa36aace66a0ffa8713220559c68"), looks := true }, kinds := [], alts := [], laidByText := true, laidKinds := [.data, .data, .data, .sentinel, .sentinel, .listed, .data], laidTests := true, laidLooks := .later }
def StatuteIsTypedCardSaid : Prop := Claim7.holds Tryz.pinned (.plain (OpenSpec.ofChange statuteIsTypedSpec)) statuteIsTypedCard

/-- THE SECOND FORM's CARD OF 'quietuslaw33.StatuteValuesAsSpecified'. -/
def statuteValuesAsSpecifiedUptoCard : Claim7 := { stood := { row := statuteValuesAsSpecifiedUptoRow, standIns := [], harness := (true, "998684024863164fcd98a781fa86bdad5a92fa36aace66a0ffa8713220559c68"), looks := true }, kinds := [], alts := [], laidByText := true, laidKinds := [.data, .data, .data, .sentinel, .sentinel, .listed, .data], laidTests := true, laidLooks := .later }
def StatuteValuesAsSpecifiedUptoCardSaid : Prop := Claim7.holds Tryz.pinned (.plain (OpenSpec.upto statuteValuesAsSpecifiedSpec)) statuteValuesAsSpecifiedUptoCard

/-- THE SECOND FORM's CARD OF 'quietuslaw33.StatuteRoundTrip'. -/
def statuteRoundTripUptoCard : Claim7 := { stood := { row := statuteRoundTripUptoRow, standIns := [], harness := (true, "998684024863164fcd98a781fa86bdad5a92fa36aace66a0ffa8713220559c68"), looks := true }, kinds := [], alts := [], laidByText := true, laidKinds := [.data, .data, .data, .sentinel, .sentinel, .listed, .data], laidTests := true, laidLooks := .later }
def StatuteRoundTripUptoCardSaid : Prop := Claim7.holds Tryz.pinned (.plain (OpenSpec.upto statuteRoundTripSpec)) statuteRoundTripUptoCard

/-- THE SECOND FORM's CARD OF 'quietuslaw33.StatuteIsChecked'. -/
def statuteIsCheckedUptoCard : Claim7 := { stood := { row := statuteIsCheckedUptoRow, standIns := [], harness := (true, "998684024863164fcd98a781fa86bdad5a92fa36aace66a0ffa8713220559c68"), looks := true }, kinds := [], alts := [], laidByText := true, laidKinds := [.data, .data, .data, .sentinel, .sentinel, .listed, .data], laidTests := true, laidLooks := .later }
def StatuteIsCheckedUptoCardSaid : Prop := Claim7.holds Tryz.pinned (.plain (OpenSpec.upto statuteIsCheckedSpec)) statuteIsCheckedUptoCard

/-- THE SECOND FORM's CARD OF 'quietuslaw33.StatuteLearns'. -/
def statuteLearnsUptoCard : Claim7 := { stood := { row := statuteLearnsUptoRow, standIns := [], harness := (true, "998684024863164fcd98a781fa86bdad5a92fa36aace66a0ffa8713220559c68"), looks := true }, kinds := [], alts := [], laidByText := true, laidKinds := [.data, .data, .data, .sentinel, .sentinel, .listed, .data], laidTests := true, laidLooks := .later }
def StatuteLearnsUptoCardSaid : Prop := Claim7.holds Tryz.pinned (.plain (OpenSpec.upto statuteLearnsSpec)) statuteLearnsUptoCard

/-- THE SECOND FORM's CARD OF 'quietuslaw33.StatuteChecksAsSpecified'. -/
def statuteChecksAsSpecifiedUptoCard : Claim7 := { stood := { row := statuteChecksAsSpecifiedUptoRow, standIns := [], harness := (true, "998684024863164fcd98a781fa86bdad5a92fa36aace66a0ffa8713220559c68"), looks := true }, kinds := [], alts := [], laidByText := true, laidKinds := [.data, .data, .data, .sentinel, .sentinel, .listed, .data], laidTests := true, laidLooks := .later }
def StatuteChecksAsSpecifiedUptoCardSaid : Prop := Claim7.holds Tryz.pinned (.plain (OpenSpec.upto statuteChecksAsSpecifiedSpec)) statuteChecksAsSpecifiedUptoCard

/-- THE SECOND FORM's CARD OF 'quietuslaw33.StatuteIsTyped'. -/
def statuteIsTypedUptoCard : Claim7 := { stood := { row := statuteIsTypedUptoRow, standIns := [], harness := (true, "998684024863164fcd98a781fa86bdad5a92fa36aace66a0ffa8713220559c68"), looks := true }, kinds := [], alts := [], laidByText := true, laidKinds := [.data, .data, .data, .sentinel, .sentinel, .listed, .data], laidTests := true, laidLooks := .later }
def StatuteIsTypedUptoCardSaid : Prop := Claim7.holds Tryz.pinned (.plain (OpenSpec.upto statuteIsTypedSpec)) statuteIsTypedUptoCard
end Rows
end Go.Proofs.YtkcfmlfkfagejaaGreatDoor
