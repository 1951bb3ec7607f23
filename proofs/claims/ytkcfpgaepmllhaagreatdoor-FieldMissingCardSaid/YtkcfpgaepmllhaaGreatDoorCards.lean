/-
  DERIVED. GIVEN WITH THE SEED: THE CARDS: each row of YtkcfpgaepmllhaaGreatDoorRows.lean that lists a variable, with what it lists TIED to the program's text (the seventh form; the later family's looks); each row that meets fmt, with fmt's text TOLD by the authors' own Lean function (tested against real Go, not proved from fmt's source: count such statements apart). THE CARD IS WHAT COUNTS. Prove the row's statement (the work); the ties are given (YtkcfpgaepmllhaaGreatDoorTie.lean); close each card by the builder's one call (the guide's Derived/Test/ToyasCard.lean, 'card_holds'). Laid BY PROGRAM, IN A SANDBOX (cutbox-door.mjs). By AI agents, Wed Nov 11 2026. No macro, syntax, notation, axiom, sorry.
-/
import Derived.Test.YtkcfpgaepmllhaaGreatDoorRows
import GoSem.ClaimSeven
namespace Go.Proofs.YtkcfpgaepmllhaaGreatDoor
namespace Rows

/-- THE TIED CARD OF 'finesselaw32.FieldTells'. -/
def fieldTellsCard : Claim7 := { stood := { row := fieldTellsRow, standIns := [], harness := (true, "060423aed630cc99e62185091ca7d4608069895c63391b9335caa56a34ade969"), looks := false }, kinds := [], alts := [], laidByText := true, laidKinds := [.data, .data, .data, .data, .data], laidTests := true, laidLooks := .later }
def FieldTellsCardSaid : Prop := Claim7.holds Tryz.pinned (.plain (OpenSpec.ofChange fieldTellsSpec)) fieldTellsCard

/-- THE TIED CARD OF 'finesselaw32.FieldSmall'. -/
def fieldSmallCard : Claim7 := { stood := { row := fieldSmallRow, standIns := [], harness := (true, "060423aed630cc99e62185091ca7d4608069895c63391b9335caa56a34ade969"), looks := false }, kinds := [], alts := [], laidByText := true, laidKinds := [.data, .data, .data, .data, .data], laidTests := true, laidLooks := .later }
def FieldSmallCardSaid : Prop := Claim7.holds Tryz.pinned (.plain (OpenSpec.ofChange fieldSmallSpec)) fieldSmallCard

/-- THE TIED CARD OF 'finesselaw32.FieldOrder'. -/
def fieldOrderCard : Claim7 := { stood := { row := fieldOrderRow, standIns := [], harness := (true, "060423aed630cc99e62185091ca7d4608069895c63391b9335caa56a34ade969"), looks := false }, kinds := [], alts := [], laidByText := true, laidKinds := [.data, .data, .data, .data, .data], laidTests := true, laidLooks := .later }
def FieldOrderCardSaid : Prop := Claim7.holds Tryz.pinned (.plain (OpenSpec.ofChange fieldOrderSpec)) fieldOrderCard

/-- THE TIED CARD OF 'finesselaw32.FieldMissing'. -/
def fieldMissingCard : Claim7 := { stood := { row := fieldMissingRow, standIns := [], harness := (true, "060423aed630cc99e62185091ca7d4608069895c63391b9335caa56a34ade969"), looks := false }, kinds := [], alts := [], laidByText := true, laidKinds := [.data, .data, .data, .data, .data], laidTests := true, laidLooks := .later }
def FieldMissingCardSaid : Prop := Claim7.holds Tryz.pinned (.plain (OpenSpec.ofChange fieldMissingSpec)) fieldMissingCard

/-- THE TIED CARD OF 'finesselaw32.FieldTurned'. -/
def fieldTurnedCard : Claim7 := { stood := { row := fieldTurnedRow, standIns := [], harness := (true, "060423aed630cc99e62185091ca7d4608069895c63391b9335caa56a34ade969"), looks := false }, kinds := [], alts := [], laidByText := true, laidKinds := [.data, .data, .data, .data, .data], laidTests := true, laidLooks := .later }
def FieldTurnedCardSaid : Prop := Claim7.holds Tryz.pinned (.plain (OpenSpec.ofChange fieldTurnedSpec)) fieldTurnedCard

/-- THE TIED CARD OF 'finesselaw32.FieldSums'. -/
def fieldSumsCard : Claim7 := { stood := { row := fieldSumsRow, standIns := [], harness := (true, "060423aed630cc99e62185091ca7d4608069895c63391b9335caa56a34ade969"), looks := false }, kinds := [], alts := [], laidByText := true, laidKinds := [.data, .data, .data, .data, .data], laidTests := true, laidLooks := .later }
def FieldSumsCardSaid : Prop := Claim7.holds Tryz.pinned (.plain (OpenSpec.ofChange fieldSumsSpec)) fieldSumsCard

/-- THE TIED CARD OF 'finesselaw32.FieldWrong'. -/
def fieldWrongCard : Claim7 := { stood := { row := fieldWrongRow, standIns := [], harness := (true, "060423aed630cc99e62185091ca7d4608069895c63391b9335caa56a34ade969"), looks := false }, kinds := [], alts := [], laidByText := true, laidKinds := [.data, .data, .data, .data, .data], laidTests := true, laidLooks := .later }
def FieldWrongCardSaid : Prop := Claim7.holds Tryz.pinned (.plain (OpenSpec.ofChange fieldWrongSpec)) fieldWrongCard

/-- THE SECOND FORM's CARD OF 'finesselaw32.FieldTells'. -/
def fieldTellsUptoCard : Claim7 := { stood := { row := fieldTellsUptoRow, standIns := [], harness := (true, "060423aed630cc99e62185091ca7d4608069895c63391b9335caa56a34ade969"), looks := false }, kinds := [], alts := [], laidByText := true, laidKinds := [.data, .data, .data, .data, .data], laidTests := true, laidLooks := .later }
def FieldTellsUptoCardSaid : Prop := Claim7.holds Tryz.pinned (.plain (OpenSpec.upto fieldTellsSpec)) fieldTellsUptoCard

/-- THE SECOND FORM's CARD OF 'finesselaw32.FieldSmall'. -/
def fieldSmallUptoCard : Claim7 := { stood := { row := fieldSmallUptoRow, standIns := [], harness := (true, "060423aed630cc99e62185091ca7d4608069895c63391b9335caa56a34ade969"), looks := false }, kinds := [], alts := [], laidByText := true, laidKinds := [.data, .data, .data, .data, .data], laidTests := true, laidLooks := .later }
def FieldSmallUptoCardSaid : Prop := Claim7.holds Tryz.pinned (.plain (OpenSpec.upto fieldSmallSpec)) fieldSmallUptoCard

/-- THE SECOND FORM's CARD OF 'finesselaw32.FieldOrder'. -/
def fieldOrderUptoCard : Claim7 := { stood := { row := fieldOrderUptoRow, standIns := [], harness := (true, "060423aed630cc99e62185091ca7d4608069895c63391b9335caa56a34ade969"), looks := false }, kinds := [], alts := [], laidByText := true, laidKinds := [.data, .data, .data, .data, .data], laidTests := true, laidLooks := .later }
def FieldOrderUptoCardSaid : Prop := Claim7.holds Tryz.pinned (.plain (OpenSpec.upto fieldOrderSpec)) fieldOrderUptoCard

/-- THE SECOND FORM's CARD OF 'finesselaw32.FieldMissing'. -/
def fieldMissingUptoCard : Claim7 := { stood := { row := fieldMissingUptoRow, standIns := [], harness := (true, "060423aed630cc99e62185091ca7d4608069895c63391b9335caa56a34ade969"), looks := false }, kinds := [], alts := [], laidByText := true, laidKinds := [.data, .data, .data, .data, .data], laidTests := true, laidLooks := .later }
def FieldMissingUptoCardSaid : Prop := Claim7.holds Tryz.pinned (.plain (OpenSpec.upto fieldMissingSpec)) fieldMissingUptoCard

/-- THE SECOND FORM's CARD OF 'finesselaw32.FieldTurned'. -/
def fieldTurnedUptoCard : Claim7 := { stood := { row := fieldTurnedUptoRow, standIns := [], harness := (true, "060423aed630cc99e62185091ca7d4608069895c63391b9335caa56a34ade969"), looks := false }, kinds := [], alts := [], laidByText := true, laidKinds := [.data, .data, .data, .data, .data], laidTests := true, laidLooks := .later }
def FieldTurnedUptoCardSaid : Prop := Claim7.holds Tryz.pinned (.plain (OpenSpec.upto fieldTurnedSpec)) fieldTurnedUptoCard

/-- THE SECOND FORM's CARD OF 'finesselaw32.FieldSums'. -/
def fieldSumsUptoCard : Claim7 := { stood := { row := fieldSumsUptoRow, standIns := [], harness := (true, "060423aed630cc99e62185091ca7d4608069895c63391b9335caa56a34ade969"), looks := false }, kinds := [], alts := [], laidByText := true, laidKinds := [.data, .data, .data, .data, .data], laidTests := true, laidLooks := .later }
def FieldSumsUptoCardSaid : Prop := Claim7.holds Tryz.pinned (.plain (OpenSpec.upto fieldSumsSpec)) fieldSumsUptoCard

/-- THE SECOND FORM's CARD OF 'finesselaw32.FieldWrong'. -/
def fieldWrongUptoCard : Claim7 := { stood := { row := fieldWrongUptoRow, standIns := [], harness := (true, "060423aed630cc99e62185091ca7d4608069895c63391b9335caa56a34ade969"), looks := false }, kinds := [], alts := [], laidByText := true, laidKinds := [.data, .data, .data, .data, .data], laidTests := true, laidLooks := .later }
def FieldWrongUptoCardSaid : Prop := Claim7.holds Tryz.pinned (.plain (OpenSpec.upto fieldWrongSpec)) fieldWrongUptoCard
end Rows
end Go.Proofs.YtkcfpgaepmllhaaGreatDoor
