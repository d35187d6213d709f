/-
  DERIVED. GIVEN WITH THE SEED: THE CARDS: each row of YtgnbcbcjafkpcaaDoorRows.lean that lists a variable, with what it lists TIED to the program's text (the seventh form; the later family's looks); each row that meets fmt, with fmt's text TOLD by the authors' own Lean function (tested against real Go, not proved from fmt's source: count such statements apart). THE CARD IS WHAT COUNTS. Prove the row's statement (the work); the ties are given (YtgnbcbcjafkpcaaDoorTie.lean); close each card by the builder's one call (the guide's Derived/Test/ToyasCard.lean, 'card_holds'). Laid BY PROGRAM, IN A SANDBOX (cutbox-door.mjs). By AI agents, Wed Nov 11 2026. No macro, syntax, notation, axiom, sorry.
-/
import Derived.Test.YtgnbcbcjafkpcaaDoorRows
import GoSem.ClaimSeven
namespace Go.Proofs.YtgnbcbcjafkpcaaDoor
namespace Rows

/-- THE TIED CARD OF 'laws.FnExactFormatMatrix'. -/
def fnExactFormatMatrixCard : Claim7 := { stood := { row := fnExactFormatMatrixRow, standIns := [], harness := (true, "5e14786cd1c42b16075d60182bf6328a6458680280c5a1dfd3fe508aacb500d7"), looks := true }, kinds := [], alts := [], laidByText := true, laidKinds := [.data, .data, .data], laidTests := true, laidLooks := .later }
def FnExactFormatMatrixCardSaid : Prop := Claim7.holds Tryd.pinned (.plain (OpenSpec.ofChange fnExactFormatMatrixSpec)) fnExactFormatMatrixCard

/-- THE TIED CARD OF 'laws.FnExactParseMatrix'. -/
def fnExactParseMatrixCard : Claim7 := { stood := { row := fnExactParseMatrixRow, standIns := [], harness := (true, "5e14786cd1c42b16075d60182bf6328a6458680280c5a1dfd3fe508aacb500d7"), looks := true }, kinds := [], alts := [], laidByText := true, laidKinds := [.data, .data, .data, .data, .sentinel, .sentinel, .pinned], laidTests := true, laidLooks := .later }
def FnExactParseMatrixCardSaid : Prop := Claim7.holds Tryd.pinned (.plain (OpenSpec.ofChange fnExactParseMatrixSpec)) fnExactParseMatrixCard

/-- THE TIED CARD OF 'laws.FnExactFormatLaurent'. -/
def fnExactFormatLaurentCard : Claim7 := { stood := { row := fnExactFormatLaurentRow, standIns := [], harness := (true, "5e14786cd1c42b16075d60182bf6328a6458680280c5a1dfd3fe508aacb500d7"), looks := true }, kinds := [], alts := [], laidByText := true, laidKinds := [.data, .data, .data], laidTests := true, laidLooks := .later }
def FnExactFormatLaurentCardSaid : Prop := Claim7.holds Tryd.pinned (.plain (OpenSpec.ofChange fnExactFormatLaurentSpec)) fnExactFormatLaurentCard

/-- THE TIED CARD OF 'laws.FnExactFormatGroup'. -/
def fnExactFormatGroupCard : Claim7 := { stood := { row := fnExactFormatGroupRow, standIns := [], harness := (true, "5e14786cd1c42b16075d60182bf6328a6458680280c5a1dfd3fe508aacb500d7"), looks := true }, kinds := [], alts := [], laidByText := true, laidKinds := [.data, .data, .data], laidTests := true, laidLooks := .later }
def FnExactFormatGroupCardSaid : Prop := Claim7.holds Tryd.pinned (.plain (OpenSpec.ofChange fnExactFormatGroupSpec)) fnExactFormatGroupCard

/-- THE TIED CARD OF 'laws.FnExactMoveText'. -/
def fnExactMoveTextCard : Claim7 := { stood := { row := fnExactMoveTextRow, standIns := [], harness := (true, "5e14786cd1c42b16075d60182bf6328a6458680280c5a1dfd3fe508aacb500d7"), looks := true }, kinds := [], alts := [], laidByText := true, laidKinds := [.data, .data, .data], laidTests := true, laidLooks := .later }
def FnExactMoveTextCardSaid : Prop := Claim7.holds Tryd.pinned (.plain (OpenSpec.ofChange fnExactMoveTextSpec)) fnExactMoveTextCard

/-- THE TIED CARD OF 'laws.FnExactReadMove'. -/
def fnExactReadMoveCard : Claim7 := { stood := { row := fnExactReadMoveRow, standIns := [], harness := (true, "5e14786cd1c42b16075d60182bf6328a6458680280c5a1dfd3fe508aacb500d7"), looks := true }, kinds := [], alts := [], laidByText := true, laidKinds := [.data, .data, .data, .data, .sentinel, .sentinel, .pinned], laidTests := true, laidLooks := .later }
def FnExactReadMoveCardSaid : Prop := Claim7.holds Tryd.pinned (.plain (OpenSpec.ofChange fnExactReadMoveSpec)) fnExactReadMoveCard

/-- THE SECOND FORM's CARD OF 'laws.FnExactFormatMatrix'. -/
def fnExactFormatMatrixUptoCard : Claim7 := { stood := { row := fnExactFormatMatrixUptoRow, standIns := [], harness := (true, "5e14786cd1c42b16075d60182bf6328a6458680280c5a1dfd3fe508aacb500d7"), looks := true }, kinds := [], alts := [], laidByText := true, laidKinds := [.data, .data, .data], laidTests := true, laidLooks := .later }
def FnExactFormatMatrixUptoCardSaid : Prop := Claim7.holds Tryd.pinned (.plain (OpenSpec.upto fnExactFormatMatrixSpec)) fnExactFormatMatrixUptoCard

/-- THE SECOND FORM's CARD OF 'laws.FnExactParseMatrix'. -/
def fnExactParseMatrixUptoCard : Claim7 := { stood := { row := fnExactParseMatrixUptoRow, standIns := [], harness := (true, "5e14786cd1c42b16075d60182bf6328a6458680280c5a1dfd3fe508aacb500d7"), looks := true }, kinds := [], alts := [], laidByText := true, laidKinds := [.data, .data, .data, .data, .sentinel, .sentinel, .pinned], laidTests := true, laidLooks := .later }
def FnExactParseMatrixUptoCardSaid : Prop := Claim7.holds Tryd.pinned (.plain (OpenSpec.upto fnExactParseMatrixSpec)) fnExactParseMatrixUptoCard

/-- THE SECOND FORM's CARD OF 'laws.FnExactFormatLaurent'. -/
def fnExactFormatLaurentUptoCard : Claim7 := { stood := { row := fnExactFormatLaurentUptoRow, standIns := [], harness := (true, "5e14786cd1c42b16075d60182bf6328a6458680280c5a1dfd3fe508aacb500d7"), looks := true }, kinds := [], alts := [], laidByText := true, laidKinds := [.data, .data, .data], laidTests := true, laidLooks := .later }
def FnExactFormatLaurentUptoCardSaid : Prop := Claim7.holds Tryd.pinned (.plain (OpenSpec.upto fnExactFormatLaurentSpec)) fnExactFormatLaurentUptoCard

/-- THE SECOND FORM's CARD OF 'laws.FnExactFormatGroup'. -/
def fnExactFormatGroupUptoCard : Claim7 := { stood := { row := fnExactFormatGroupUptoRow, standIns := [], harness := (true, "5e14786cd1c42b16075d60182bf6328a6458680280c5a1dfd3fe508aacb500d7"), looks := true }, kinds := [], alts := [], laidByText := true, laidKinds := [.data, .data, .data], laidTests := true, laidLooks := .later }
def FnExactFormatGroupUptoCardSaid : Prop := Claim7.holds Tryd.pinned (.plain (OpenSpec.upto fnExactFormatGroupSpec)) fnExactFormatGroupUptoCard

/-- THE SECOND FORM's CARD OF 'laws.FnExactMoveText'. -/
def fnExactMoveTextUptoCard : Claim7 := { stood := { row := fnExactMoveTextUptoRow, standIns := [], harness := (true, "5e14786cd1c42b16075d60182bf6328a6458680280c5a1dfd3fe508aacb500d7"), looks := true }, kinds := [], alts := [], laidByText := true, laidKinds := [.data, .data, .data], laidTests := true, laidLooks := .later }
def FnExactMoveTextUptoCardSaid : Prop := Claim7.holds Tryd.pinned (.plain (OpenSpec.upto fnExactMoveTextSpec)) fnExactMoveTextUptoCard

/-- THE SECOND FORM's CARD OF 'laws.FnExactReadMove'. -/
def fnExactReadMoveUptoCard : Claim7 := { stood := { row := fnExactReadMoveUptoRow, standIns := [], harness := (true, "5e14786cd1c42b16075d60182bf6328a6458680280c5a1dfd3fe508aacb500d7"), looks := true }, kinds := [], alts := [], laidByText := true, laidKinds := [.data, .data, .data, .data, .sentinel, .sentinel, .pinned], laidTests := true, laidLooks := .later }
def FnExactReadMoveUptoCardSaid : Prop := Claim7.holds Tryd.pinned (.plain (OpenSpec.upto fnExactReadMoveSpec)) fnExactReadMoveUptoCard
end Rows
end Go.Proofs.YtgnbcbcjafkpcaaDoor
