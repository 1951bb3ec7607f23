/-
  DERIVED. GIVEN WITH THE SEED: THE CARDS: each row of YtdepmampjnlgiaaGreatDoorRows.lean that lists a variable, with what it lists TIED to the program's text (the seventh form; the later family's looks); each row that meets fmt, with fmt's text TOLD by the authors' own Lean function (tested against real Go, not proved from fmt's source: count such statements apart). THE CARD IS WHAT COUNTS. Prove the row's statement (the work); the ties are given (YtdepmampjnlgiaaGreatDoorTie.lean); close each card by the builder's one call (the guide's Derived/Test/ToyasCard.lean, 'card_holds'). Laid BY PROGRAM, IN A SANDBOX (cutbox-door.mjs). By AI agents, Wed Nov 11 2026. No macro, syntax, notation, axiom, sorry.
-/
import Derived.Test.YtdepmampjnlgiaaGreatDoorRows
import GoSem.ClaimSeven
namespace Go.Proofs.YtdepmampjnlgiaaGreatDoor
namespace Rows

/-- THE TIED CARD OF 'finesselaw33.RankLines'. -/
def rankLinesCard : Claim7 := { stood := { row := rankLinesRow, standIns := [], harness := (true, "4871a85e52ea96260400f0ebe3c44082bcf8bea35d3bfc4375ebd900b048ea82"), looks := false }, kinds := [], alts := [], laidByText := true, laidKinds := [.data, .data, .data, .data, .data], laidTests := true, laidLooks := .later }
def RankLinesCardSaid : Prop := Claim7.holds Tryz.pinned (.plain (OpenSpec.ofChange rankLinesSpec)) rankLinesCard

/-- THE TIED CARD OF 'finesselaw33.RankTells'. -/
def rankTellsCard : Claim7 := { stood := { row := rankTellsRow, standIns := [], harness := (true, "4871a85e52ea96260400f0ebe3c44082bcf8bea35d3bfc4375ebd900b048ea82"), looks := false }, kinds := [], alts := [], laidByText := true, laidKinds := [.data, .data, .data, .data, .data], laidTests := true, laidLooks := .later }
def RankTellsCardSaid : Prop := Claim7.holds Tryz.pinned (.plain (OpenSpec.ofChange rankTellsSpec)) rankTellsCard

/-- THE TIED CARD OF 'finesselaw33.RankSmall'. -/
def rankSmallCard : Claim7 := { stood := { row := rankSmallRow, standIns := [], harness := (true, "4871a85e52ea96260400f0ebe3c44082bcf8bea35d3bfc4375ebd900b048ea82"), looks := false }, kinds := [], alts := [], laidByText := true, laidKinds := [.data, .data, .data, .data, .data], laidTests := true, laidLooks := .later }
def RankSmallCardSaid : Prop := Claim7.holds Tryz.pinned (.plain (OpenSpec.ofChange rankSmallSpec)) rankSmallCard

/-- THE TIED CARD OF 'finesselaw33.RankWrong'. -/
def rankWrongCard : Claim7 := { stood := { row := rankWrongRow, standIns := [], harness := (true, "4871a85e52ea96260400f0ebe3c44082bcf8bea35d3bfc4375ebd900b048ea82"), looks := false }, kinds := [], alts := [], laidByText := true, laidKinds := [.data, .data, .data, .data, .data], laidTests := true, laidLooks := .later }
def RankWrongCardSaid : Prop := Claim7.holds Tryz.pinned (.plain (OpenSpec.ofChange rankWrongSpec)) rankWrongCard

/-- THE TIED CARD OF 'finesselaw33.RankOrder'. -/
def rankOrderCard : Claim7 := { stood := { row := rankOrderRow, standIns := [], harness := (true, "4871a85e52ea96260400f0ebe3c44082bcf8bea35d3bfc4375ebd900b048ea82"), looks := false }, kinds := [], alts := [], laidByText := true, laidKinds := [.data, .data, .data, .data, .data], laidTests := true, laidLooks := .later }
def RankOrderCardSaid : Prop := Claim7.holds Tryz.pinned (.plain (OpenSpec.ofChange rankOrderSpec)) rankOrderCard

/-- THE TIED CARD OF 'finesselaw33.RankParts'. -/
def rankPartsCard : Claim7 := { stood := { row := rankPartsRow, standIns := [], harness := (true, "4871a85e52ea96260400f0ebe3c44082bcf8bea35d3bfc4375ebd900b048ea82"), looks := false }, kinds := [], alts := [], laidByText := true, laidKinds := [.data, .data, .data, .data, .data], laidTests := true, laidLooks := .later }
def RankPartsCardSaid : Prop := Claim7.holds Tryz.pinned (.plain (OpenSpec.ofChange rankPartsSpec)) rankPartsCard

/-- THE TIED CARD OF 'finesselaw33.RankBetter'. -/
def rankBetterCard : Claim7 := { stood := { row := rankBetterRow, standIns := [], harness := (true, "4871a85e52ea96260400f0ebe3c44082bcf8bea35d3bfc4375ebd900b048ea82"), looks := false }, kinds := [], alts := [], laidByText := true, laidKinds := [.data, .data, .data, .data, .data], laidTests := true, laidLooks := .later }
def RankBetterCardSaid : Prop := Claim7.holds Tryz.pinned (.plain (OpenSpec.ofChange rankBetterSpec)) rankBetterCard

/-- THE TIED CARD OF 'finesselaw33.RankSums'. -/
def rankSumsCard : Claim7 := { stood := { row := rankSumsRow, standIns := [], harness := (true, "4871a85e52ea96260400f0ebe3c44082bcf8bea35d3bfc4375ebd900b048ea82"), looks := false }, kinds := [], alts := [], laidByText := true, laidKinds := [.data, .data, .data, .data, .data], laidTests := true, laidLooks := .later }
def RankSumsCardSaid : Prop := Claim7.holds Tryz.pinned (.plain (OpenSpec.ofChange rankSumsSpec)) rankSumsCard

/-- THE SECOND FORM's CARD OF 'finesselaw33.RankLines'. -/
def rankLinesUptoCard : Claim7 := { stood := { row := rankLinesUptoRow, standIns := [], harness := (true, "4871a85e52ea96260400f0ebe3c44082bcf8bea35d3bfc4375ebd900b048ea82"), looks := false }, kinds := [], alts := [], laidByText := true, laidKinds := [.data, .data, .data, .data, .data], laidTests := true, laidLooks := .later }
def RankLinesUptoCardSaid : Prop := Claim7.holds Tryz.pinned (.plain (OpenSpec.upto rankLinesSpec)) rankLinesUptoCard

/-- THE SECOND FORM's CARD OF 'finesselaw33.RankTells'. -/
def rankTellsUptoCard : Claim7 := { stood := { row := rankTellsUptoRow, standIns := [], harness := (true, "4871a85e52ea96260400f0ebe3c44082bcf8bea35d3bfc4375ebd900b048ea82"), looks := false }, kinds := [], alts := [], laidByText := true, laidKinds := [.data, .data, .data, .data, .data], laidTests := true, laidLooks := .later }
def RankTellsUptoCardSaid : Prop := Claim7.holds Tryz.pinned (.plain (OpenSpec.upto rankTellsSpec)) rankTellsUptoCard

/-- THE SECOND FORM's CARD OF 'finesselaw33.RankSmall'. -/
def rankSmallUptoCard : Claim7 := { stood := { row := rankSmallUptoRow, standIns := [], harness := (true, "4871a85e52ea96260400f0ebe3c44082bcf8bea35d3bfc4375ebd900b048ea82"), looks := false }, kinds := [], alts := [], laidByText := true, laidKinds := [.data, .data, .data, .data, .data], laidTests := true, laidLooks := .later }
def RankSmallUptoCardSaid : Prop := Claim7.holds Tryz.pinned (.plain (OpenSpec.upto rankSmallSpec)) rankSmallUptoCard

/-- THE SECOND FORM's CARD OF 'finesselaw33.RankWrong'. -/
def rankWrongUptoCard : Claim7 := { stood := { row := rankWrongUptoRow, standIns := [], harness := (true, "4871a85e52ea96260400f0ebe3c44082bcf8bea35d3bfc4375ebd900b048ea82"), looks := false }, kinds := [], alts := [], laidByText := true, laidKinds := [.data, .data, .data, .data, .data], laidTests := true, laidLooks := .later }
def RankWrongUptoCardSaid : Prop := Claim7.holds Tryz.pinned (.plain (OpenSpec.upto rankWrongSpec)) rankWrongUptoCard

/-- THE SECOND FORM's CARD OF 'finesselaw33.RankOrder'. -/
def rankOrderUptoCard : Claim7 := { stood := { row := rankOrderUptoRow, standIns := [], harness := (true, "4871a85e52ea96260400f0ebe3c44082bcf8bea35d3bfc4375ebd900b048ea82"), looks := false }, kinds := [], alts := [], laidByText := true, laidKinds := [.data, .data, .data, .data, .data], laidTests := true, laidLooks := .later }
def RankOrderUptoCardSaid : Prop := Claim7.holds Tryz.pinned (.plain (OpenSpec.upto rankOrderSpec)) rankOrderUptoCard

/-- THE SECOND FORM's CARD OF 'finesselaw33.RankParts'. -/
def rankPartsUptoCard : Claim7 := { stood := { row := rankPartsUptoRow, standIns := [], harness := (true, "4871a85e52ea96260400f0ebe3c44082bcf8bea35d3bfc4375ebd900b048ea82"), looks := false }, kinds := [], alts := [], laidByText := true, laidKinds := [.data, .data, .data, .data, .data], laidTests := true, laidLooks := .later }
def RankPartsUptoCardSaid : Prop := Claim7.holds Tryz.pinned (.plain (OpenSpec.upto rankPartsSpec)) rankPartsUptoCard

/-- THE SECOND FORM's CARD OF 'finesselaw33.RankBetter'. -/
def rankBetterUptoCard : Claim7 := { stood := { row := rankBetterUptoRow, standIns := [], harness := (true, "4871a85e52ea96260400f0ebe3c44082bcf8bea35d3bfc4375ebd900b048ea82"), looks := false }, kinds := [], alts := [], laidByText := true, laidKinds := [.data, .data, .data, .data, .data], laidTests := true, laidLooks := .later }
def RankBetterUptoCardSaid : Prop := Claim7.holds Tryz.pinned (.plain (OpenSpec.upto rankBetterSpec)) rankBetterUptoCard

/-- THE SECOND FORM's CARD OF 'finesselaw33.RankSums'. -/
def rankSumsUptoCard : Claim7 := { stood := { row := rankSumsUptoRow, standIns := [], harness := (true, "4871a85e52ea96260400f0ebe3c44082bcf8bea35d3bfc4375ebd900b048ea82"), looks := false }, kinds := [], alts := [], laidByText := true, laidKinds := [.data, .data, .data, .data, .data], laidTests := true, laidLooks := .later }
def RankSumsUptoCardSaid : Prop := Claim7.holds Tryz.pinned (.plain (OpenSpec.upto rankSumsSpec)) rankSumsUptoCard
end Rows
end Go.Proofs.YtdepmampjnlgiaaGreatDoor
