/-
  DERIVED. GIVEN WITH THE SEED: THE CARDS: each row of YtjfccohgkgcnfaaGreatDoorRows.lean that lists a variable, with what it lists TIED to the program's text (the seventh form; the later family's looks); each row that meets fmt, with fmt's text TOLD by the authors' own Lean function (tested against real Go, not proved from fmt's source: count such statements apart). THE CARD IS WHAT COUNTS. Prove the row's statement (the work); the ties are given (YtjfccohgkgcnfaaGreatDoorTie.lean); close each card by the builder's one call (the guide's Derived/Test/ToyasCard.lean, 'card_holds'). Laid BY PROGRAM, IN A SANDBOX (cutbox-door.mjs). By AI agents, Wed Nov 11 2026. No macro, syntax, notation, axiom, sorry.
-/
import Derived.Test.YtjfccohgkgcnfaaGreatDoorRows
import GoSem.ClaimSeven
namespace Go.Proofs.YtjfccohgkgcnfaaGreatDoor
namespace Rows

/-- THE TIED CARD OF 'quietuslaw31.LexerReadsAsSpecified'. -/
def lexerReadsAsSpecifiedCard : Claim7 := { stood := { row := lexerReadsAsSpecifiedRow, standIns := [], harness := (true, "ddb17e109f53d6eaaafb01bdedf637cfbe560ab146dd6fdd2ba16c71defaa5c1"), looks := true }, kinds := [], alts := [], laidByText := true, laidKinds := [.data, .data, .data, .sentinel, .sentinel, .listed, .data], laidTests := true, laidLooks := .later }
def LexerReadsAsSpecifiedCardSaid : Prop := Claim7.holds Tryz.pinned (.plain (OpenSpec.ofChange lexerReadsAsSpecifiedSpec)) lexerReadsAsSpecifiedCard

/-- THE TIED CARD OF 'quietuslaw31.LexerPrintsAsSpecified'. -/
def lexerPrintsAsSpecifiedCard : Claim7 := { stood := { row := lexerPrintsAsSpecifiedRow, standIns := [], harness := (true, "ddb17e109f53d6eaaafb01bdedf637cfbe560ab146dd6fdd2ba16c71defaa5c1"), looks := true }, kinds := [], alts := [], laidByText := true, laidKinds := [.data, .data, .data, .sentinel, .sentinel, .listed, .data], laidTests := true, laidLooks := .later }
def LexerPrintsAsSpecifiedCardSaid : Prop := Claim7.holds Tryz.pinned (.plain (OpenSpec.ofChange lexerPrintsAsSpecifiedSpec)) lexerPrintsAsSpecifiedCard

/-- THE TIED CARD OF 'quietuslaw31.LexerFindsPositions'. -/
def lexerFindsPositionsCard : Claim7 := { stood := { row := lexerFindsPositionsRow, standIns := [], harness := (true, "ddb17e109f53d6eaaafb01bdedf637cfbe560ab146dd6fdd2ba16c71defaa5c1"), looks := true }, kinds := [], alts := [], laidByText := true, laidKinds := [.data, .data, .data, .sentinel, .sentinel, .listed, .data], laidTests := true, laidLooks := .later }
def LexerFindsPositionsCardSaid : Prop := Claim7.holds Tryz.pinned (.plain (OpenSpec.ofChange lexerFindsPositionsSpec)) lexerFindsPositionsCard

/-- THE TIED CARD OF 'quietuslaw31.LexerReadsItsText'. -/
def lexerReadsItsTextCard : Claim7 := { stood := { row := lexerReadsItsTextRow, standIns := [], harness := (true, "ddb17e109f53d6eaaafb01bdedf637cfbe560ab146dd6fdd2ba16c71defaa5c1"), looks := true }, kinds := [], alts := [], laidByText := true, laidKinds := [.data, .data, .data, .sentinel, .sentinel, .listed, .data], laidTests := true, laidLooks := .later }
def LexerReadsItsTextCardSaid : Prop := Claim7.holds Tryz.pinned (.plain (OpenSpec.ofChange lexerReadsItsTextSpec)) lexerReadsItsTextCard

/-- THE TIED CARD OF 'quietuslaw31.LexerJoinsSources'. -/
def lexerJoinsSourcesCard : Claim7 := { stood := { row := lexerJoinsSourcesRow, standIns := [], harness := (true, "ddb17e109f53d6eaaafb01bdedf637cfbe560ab146dd6fdd2ba16c71defaa5c1"), looks := true }, kinds := [], alts := [], laidByText := true, laidKinds := [.data, .data, .data, .sentinel, .sentinel, .listed, .data], laidTests := true, laidLooks := .later }
def LexerJoinsSourcesCardSaid : Prop := Claim7.holds Tryz.pinned (.plain (OpenSpec.ofChange lexerJoinsSourcesSpec)) lexerJoinsSourcesCard

/-- THE TIED CARD OF 'quietuslaw31.LexerIgnoresBlanks'. -/
def lexerIgnoresBlanksCard : Claim7 := { stood := { row := lexerIgnoresBlanksRow, standIns := [], harness := (true, "ddb17e109f53d6eaaafb01bdedf637cfbe560ab146dd6fdd2ba16c71defaa5c1"), looks := true }, kinds := [], alts := [], laidByText := true, laidKinds := [.data, .data, .data, .sentinel, .sentinel, .listed, .data], laidTests := true, laidLooks := .later }
def LexerIgnoresBlanksCardSaid : Prop := Claim7.holds Tryz.pinned (.plain (OpenSpec.ofChange lexerIgnoresBlanksSpec)) lexerIgnoresBlanksCard

/-- THE TIED CARD OF 'quietuslaw31.LexerStopsAtTheFirstProblem'. -/
def lexerStopsAtTheFirstProblemCard : Claim7 := { stood := { row := lexerStopsAtTheFirstProblemRow, standIns := [], harness := (true, "ddb17e109f53d6eaaafb01bdedf637cfbe560ab146dd6fdd2ba16c71defaa5c1"), looks := true }, kinds := [], alts := [], laidByText := true, laidKinds := [.data, .data, .data, .sentinel, .sentinel, .listed, .data], laidTests := true, laidLooks := .later }
def LexerStopsAtTheFirstProblemCardSaid : Prop := Claim7.holds Tryz.pinned (.plain (OpenSpec.ofChange lexerStopsAtTheFirstProblemSpec)) lexerStopsAtTheFirstProblemCard

/-- THE TIED CARD OF 'quietuslaw31.LexerCoversSources'. -/
def lexerCoversSourcesCard : Claim7 := { stood := { row := lexerCoversSourcesRow, standIns := [], harness := (true, "ddb17e109f53d6eaaafb01bdedf637cfbe560ab146dd6fdd2ba16c71defaa5c1"), looks := true }, kinds := [], alts := [], laidByText := true, laidKinds := [.data, .data, .data, .sentinel, .sentinel, .listed, .data], laidTests := true, laidLooks := .later }
def LexerCoversSourcesCardSaid : Prop := Claim7.holds Tryz.pinned (.plain (OpenSpec.ofChange lexerCoversSourcesSpec)) lexerCoversSourcesCard

/-- THE SECOND FORM's CARD OF 'quietuslaw31.LexerReadsAsSpecified'. -/
def lexerReadsAsSpecifiedUptoCard : Claim7 := { stood := { row := lexerReadsAsSpecifiedUptoRow, standIns := [], harness := (true, "ddb17e109f53d6eaaafb01bdedf637cfbe560ab146dd6fdd2ba16c71defaa5c1"), looks := true }, kinds := [], alts := [], laidByText := true, laidKinds := [.data, .data, .data, .sentinel, .sentinel, .listed, .data], laidTests := true, laidLooks := .later }
def LexerReadsAsSpecifiedUptoCardSaid : Prop := Claim7.holds Tryz.pinned (.plain (OpenSpec.upto lexerReadsAsSpecifiedSpec)) lexerReadsAsSpecifiedUptoCard

/-- THE SECOND FORM's CARD OF 'quietuslaw31.LexerPrintsAsSpecified'. -/
def lexerPrintsAsSpecifiedUptoCard : Claim7 := { stood := { row := lexerPrintsAsSpecifiedUptoRow, standIns := [], harness := (true, "ddb17e109f53d6eaaafb01bdedf637cfbe560ab146dd6fdd2ba16c71defaa5c1"), looks := true }, kinds := [], alts := [], laidByText := true, laidKinds := [.data, .data, .data, .sentinel, .sentinel, .listed, .data], laidTests := true, laidLooks := .later }
def LexerPrintsAsSpecifiedUptoCardSaid : Prop := Claim7.holds Tryz.pinned (.plain (OpenSpec.upto lexerPrintsAsSpecifiedSpec)) lexerPrintsAsSpecifiedUptoCard

/-- THE SECOND FORM's CARD OF 'quietuslaw31.LexerFindsPositions'. -/
def lexerFindsPositionsUptoCard : Claim7 := { stood := { row := lexerFindsPositionsUptoRow, standIns := [], harness := (true, "ddb17e109f53d6eaaafb01bdedf637cfbe560ab146dd6fdd2ba16c71defaa5c1"), looks := true }, kinds := [], alts := [], laidByText := true, laidKinds := [.data, .data, .data, .sentinel, .sentinel, .listed, .data], laidTests := true, laidLooks := .later }
def LexerFindsPositionsUptoCardSaid : Prop := Claim7.holds Tryz.pinned (.plain (OpenSpec.upto lexerFindsPositionsSpec)) lexerFindsPositionsUptoCard

/-- THE SECOND FORM's CARD OF 'quietuslaw31.LexerReadsItsText'. -/
def lexerReadsItsTextUptoCard : Claim7 := { stood := { row := lexerReadsItsTextUptoRow, standIns := [], harness := (true, "ddb17e109f53d6eaaafb01bdedf637cfbe560ab146dd6fdd2ba16c71defaa5c1"), looks := true }, kinds := [], alts := [], laidByText := true, laidKinds := [.data, .data, .data, .sentinel, .sentinel, .listed, .data], laidTests := true, laidLooks := .later }
def LexerReadsItsTextUptoCardSaid : Prop := Claim7.holds Tryz.pinned (.plain (OpenSpec.upto lexerReadsItsTextSpec)) lexerReadsItsTextUptoCard

/-- THE SECOND FORM's CARD OF 'quietuslaw31.LexerJoinsSources'. -/
def lexerJoinsSourcesUptoCard : Claim7 := { stood := { row := lexerJoinsSourcesUptoRow, standIns := [], harness := (true, "ddb17e109f53d6eaaafb01bdedf637cfbe560ab146dd6fdd2ba16c71defaa5c1"), looks := true }, kinds := [], alts := [], laidByText := true, laidKinds := [.data, .data, .data, .sentinel, .sentinel, .listed, .data], laidTests := true, laidLooks := .later }
def LexerJoinsSourcesUptoCardSaid : Prop := Claim7.holds Tryz.pinned (.plain (OpenSpec.upto lexerJoinsSourcesSpec)) lexerJoinsSourcesUptoCard

/-- THE SECOND FORM's CARD OF 'quietuslaw31.LexerIgnoresBlanks'. -/
def lexerIgnoresBlanksUptoCard : Claim7 := { stood := { row := lexerIgnoresBlanksUptoRow, standIns := [], harness := (true, "ddb17e109f53d6eaaafb01bdedf637cfbe560ab146dd6fdd2ba16c71defaa5c1"), looks := true }, kinds := [], alts := [], laidByText := true, laidKinds := [.data, .data, .data, .sentinel, .sentinel, .listed, .data], laidTests := true, laidLooks := .later }
def LexerIgnoresBlanksUptoCardSaid : Prop := Claim7.holds Tryz.pinned (.plain (OpenSpec.upto lexerIgnoresBlanksSpec)) lexerIgnoresBlanksUptoCard

/-- THE SECOND FORM's CARD OF 'quietuslaw31.LexerStopsAtTheFirstProblem'. -/
def lexerStopsAtTheFirstProblemUptoCard : Claim7 := { stood := { row := lexerStopsAtTheFirstProblemUptoRow, standIns := [], harness := (true, "ddb17e109f53d6eaaafb01bdedf637cfbe560ab146dd6fdd2ba16c71defaa5c1"), looks := true }, kinds := [], alts := [], laidByText := true, laidKinds := [.data, .data, .data, .sentinel, .sentinel, .listed, .data], laidTests := true, laidLooks := .later }
def LexerStopsAtTheFirstProblemUptoCardSaid : Prop := Claim7.holds Tryz.pinned (.plain (OpenSpec.upto lexerStopsAtTheFirstProblemSpec)) lexerStopsAtTheFirstProblemUptoCard

/-- THE SECOND FORM's CARD OF 'quietuslaw31.LexerCoversSources'. -/
def lexerCoversSourcesUptoCard : Claim7 := { stood := { row := lexerCoversSourcesUptoRow, standIns := [], harness := (true, "ddb17e109f53d6eaaafb01bdedf637cfbe560ab146dd6fdd2ba16c71defaa5c1"), looks := true }, kinds := [], alts := [], laidByText := true, laidKinds := [.data, .data, .data, .sentinel, .sentinel, .listed, .data], laidTests := true, laidLooks := .later }
def LexerCoversSourcesUptoCardSaid : Prop := Claim7.holds Tryz.pinned (.plain (OpenSpec.upto lexerCoversSourcesSpec)) lexerCoversSourcesUptoCard
end Rows
end Go.Proofs.YtjfccohgkgcnfaaGreatDoor
