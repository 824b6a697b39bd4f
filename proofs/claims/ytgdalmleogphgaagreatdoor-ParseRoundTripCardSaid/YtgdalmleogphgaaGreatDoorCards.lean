/-
  DERIVED. GIVEN WITH THE SEED: THE CARDS: each row of YtgdalmleogphgaaGreatDoorRows.lean that lists a variable, with what it lists TIED to the program's text (the seventh form; the later family's looks); each row that meets fmt, with fmt's text TOLD by the authors' own Lean function (tested against real Go, not proved from fmt's source: count such statements apart). THE CARD IS WHAT COUNTS. Prove the row's statement (the work); the ties are given (YtgdalmleogphgaaGreatDoorTie.lean); close each card by the builder's one call (the guide's Derived/Test/ToyasCard.lean, 'card_holds'). Laid BY PROGRAM, IN A SANDBOX (cutbox-door.mjs). By AI agents, Wed Nov 11 2026. No macro, syntax, notation, axiom, sorry.
-/
import Derived.Test.YtgdalmleogphgaaGreatDoorRows
import GoSem.ClaimSeven
namespace Go.Proofs.YtgdalmleogphgaaGreatDoor
namespace Rows

/-- THE TIED CARD OF 'quietuslaw32.ParseMatchesSpec'. -/
def parseMatchesSpecCard : Claim7 := { stood := { row := parseMatchesSpecRow, standIns := [], harness := (true, "f751065004fad875f083848156f3d5534ef23270d4923616642a5f92ee671458"), looks := true }, kinds := [], alts := [], laidByText := true, laidKinds := [.data, .data, .data, .sentinel, .sentinel, .listed, .data], laidTests := true, laidLooks := .later }
def ParseMatchesSpecCardSaid : Prop := Claim7.holds Tryz.pinned (.plain (OpenSpec.ofChange parseMatchesSpecSpec)) parseMatchesSpecCard

/-- THE TIED CARD OF 'quietuslaw32.ParseJoins'. -/
def parseJoinsCard : Claim7 := { stood := { row := parseJoinsRow, standIns := [], harness := (true, "f751065004fad875f083848156f3d5534ef23270d4923616642a5f92ee671458"), looks := true }, kinds := [], alts := [], laidByText := true, laidKinds := [.data, .data, .data, .sentinel, .sentinel, .listed, .data], laidTests := true, laidLooks := .later }
def ParseJoinsCardSaid : Prop := Claim7.holds Tryz.pinned (.plain (OpenSpec.ofChange parseJoinsSpec)) parseJoinsCard

/-- THE TIED CARD OF 'quietuslaw32.ParseNests'. -/
def parseNestsCard : Claim7 := { stood := { row := parseNestsRow, standIns := [], harness := (true, "f751065004fad875f083848156f3d5534ef23270d4923616642a5f92ee671458"), looks := true }, kinds := [], alts := [], laidByText := true, laidKinds := [.data, .data, .data, .sentinel, .sentinel, .listed, .data], laidTests := true, laidLooks := .later }
def ParseNestsCardSaid : Prop := Claim7.holds Tryz.pinned (.plain (OpenSpec.ofChange parseNestsSpec)) parseNestsCard

/-- THE TIED CARD OF 'quietuslaw32.ParseRoundTrip'. -/
def parseRoundTripCard : Claim7 := { stood := { row := parseRoundTripRow, standIns := [], harness := (true, "f751065004fad875f083848156f3d5534ef23270d4923616642a5f92ee671458"), looks := true }, kinds := [], alts := [], laidByText := true, laidKinds := [.data, .data, .data, .sentinel, .sentinel, .listed, .data], laidTests := true, laidLooks := .later }
def ParseRoundTripCardSaid : Prop := Claim7.holds Tryz.pinned (.plain (OpenSpec.ofChange parseRoundTripSpec)) parseRoundTripCard

/-- THE SECOND FORM's CARD OF 'quietuslaw32.ParseMatchesSpec'. -/
def parseMatchesSpecUptoCard : Claim7 := { stood := { row := parseMatchesSpecUptoRow, standIns := [], harness := (true, "f751065004fad875f083848156f3d5534ef23270d4923616642a5f92ee671458"), looks := true }, kinds := [], alts := [], laidByText := true, laidKinds := [.data, .data, .data, .sentinel, .sentinel, .listed, .data], laidTests := true, laidLooks := .later }
def ParseMatchesSpecUptoCardSaid : Prop := Claim7.holds Tryz.pinned (.plain (OpenSpec.upto parseMatchesSpecSpec)) parseMatchesSpecUptoCard

/-- THE SECOND FORM's CARD OF 'quietuslaw32.ParseJoins'. -/
def parseJoinsUptoCard : Claim7 := { stood := { row := parseJoinsUptoRow, standIns := [], harness := (true, "f751065004fad875f083848156f3d5534ef23270d4923616642a5f92ee671458"), looks := true }, kinds := [], alts := [], laidByText := true, laidKinds := [.data, .data, .data, .sentinel, .sentinel, .listed, .data], laidTests := true, laidLooks := .later }
def ParseJoinsUptoCardSaid : Prop := Claim7.holds Tryz.pinned (.plain (OpenSpec.upto parseJoinsSpec)) parseJoinsUptoCard

/-- THE SECOND FORM's CARD OF 'quietuslaw32.ParseNests'. -/
def parseNestsUptoCard : Claim7 := { stood := { row := parseNestsUptoRow, standIns := [], harness := (true, "f751065004fad875f083848156f3d5534ef23270d4923616642a5f92ee671458"), looks := true }, kinds := [], alts := [], laidByText := true, laidKinds := [.data, .data, .data, .sentinel, .sentinel, .listed, .data], laidTests := true, laidLooks := .later }
def ParseNestsUptoCardSaid : Prop := Claim7.holds Tryz.pinned (.plain (OpenSpec.upto parseNestsSpec)) parseNestsUptoCard

/-- THE SECOND FORM's CARD OF 'quietuslaw32.ParseRoundTrip'. -/
def parseRoundTripUptoCard : Claim7 := { stood := { row := parseRoundTripUptoRow, standIns := [], harness := (true, "f751065004fad875f083848156f3d5534ef23270d4923616642a5f92ee671458"), looks := true }, kinds := [], alts := [], laidByText := true, laidKinds := [.data, .data, .data, .sentinel, .sentinel, .listed, .data], laidTests := true, laidLooks := .later }
def ParseRoundTripUptoCardSaid : Prop := Claim7.holds Tryz.pinned (.plain (OpenSpec.upto parseRoundTripSpec)) parseRoundTripUptoCard
end Rows
end Go.Proofs.YtgdalmleogphgaaGreatDoor
