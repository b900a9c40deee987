/-
  DERIVED. GIVEN WITH THE SEED: THE CARDS: each row of YtceelkmedfoefaaDoorRows.lean that lists a variable, with what it lists TIED to the program's text (the seventh form; the later family's looks); each row that meets fmt, with fmt's text TOLD by the authors' own Lean function (tested against real Go, not proved from fmt's source: count such statements apart). THE CARD IS WHAT COUNTS. Prove the row's statement (the work); the ties are given (YtceelkmedfoefaaDoorTie.lean); close each card by the builder's one call (the guide's Derived/Test/ToyasCard.lean, 'card_holds'). Laid BY PROGRAM, IN A SANDBOX (cutbox-door.mjs). By AI agents, Wed Nov 11 2026. No macro, syntax, notation, axiom, sorry.
-/
import Derived.Test.YtceelkmedfoefaaDoorRows
import GoSem.ClaimSeven
namespace Go.Proofs.YtceelkmedfoefaaDoor
namespace Rows

/-- THE TIED CARD OF 'mimesislaw06.AsmPieces'. -/
def asmPiecesCard : Claim7 := { stood := { row := asmPiecesRow, standIns := [], harness := (true, "379bb9740dcee708e54628b5f9eb815e8a3078b48da92db2e74f01d606b64738"), looks := false }, kinds := [], alts := [], laidByText := true, laidKinds := [.data, .data, .data], laidTests := true, laidLooks := .later }
def AsmPiecesCardSaid : Prop := Claim7.holds Tryd.pinned (.plain (OpenSpec.ofChange asmPiecesSpec)) asmPiecesCard

/-- THE TIED CARD OF 'mimesislaw06.AsmLines'. -/
def asmLinesCard : Claim7 := { stood := { row := asmLinesRow, standIns := [], harness := (true, "379bb9740dcee708e54628b5f9eb815e8a3078b48da92db2e74f01d606b64738"), looks := false }, kinds := [], alts := [], laidByText := true, laidKinds := [.data, .data, .data], laidTests := true, laidLooks := .later }
def AsmLinesCardSaid : Prop := Claim7.holds Tryd.pinned (.plain (OpenSpec.ofChange asmLinesSpec)) asmLinesCard

/-- THE TIED CARD OF 'mimesislaw06.AsmPrograms'. -/
def asmProgramsCard : Claim7 := { stood := { row := asmProgramsRow, standIns := [], harness := (true, "379bb9740dcee708e54628b5f9eb815e8a3078b48da92db2e74f01d606b64738"), looks := false }, kinds := [], alts := [], laidByText := true, laidKinds := [.data, .data, .data], laidTests := true, laidLooks := .later }
def AsmProgramsCardSaid : Prop := Claim7.holds Tryd.pinned (.plain (OpenSpec.ofChange asmProgramsSpec)) asmProgramsCard

/-- THE TIED CARD OF 'mimesislaw06.AsmMany'. -/
def asmManyCard : Claim7 := { stood := { row := asmManyRow, standIns := [], harness := (true, "379bb9740dcee708e54628b5f9eb815e8a3078b48da92db2e74f01d606b64738"), looks := false }, kinds := [], alts := [], laidByText := true, laidKinds := [.data, .data, .data], laidTests := true, laidLooks := .later }
def AsmManyCardSaid : Prop := Claim7.holds Tryd.pinned (.plain (OpenSpec.ofChange asmManySpec)) asmManyCard

/-- THE TIED CARD OF 'mimesislaw06.AsmBack'. -/
def asmBackCard : Claim7 := { stood := { row := asmBackRow, standIns := [], harness := (true, "379bb9740dcee708e54628b5f9eb815e8a3078b48da92db2e74f01d606b64738"), looks := false }, kinds := [], alts := [], laidByText := true, laidKinds := [.data, .data, .data], laidTests := true, laidLooks := .later }
def AsmBackCardSaid : Prop := Claim7.holds Tryd.pinned (.plain (OpenSpec.ofChange asmBackSpec)) asmBackCard

/-- THE SECOND FORM's CARD OF 'mimesislaw06.AsmPieces'. -/
def asmPiecesUptoCard : Claim7 := { stood := { row := asmPiecesUptoRow, standIns := [], harness := (true, "379bb9740dcee708e54628b5f9eb815e8a3078b48da92db2e74f01d606b64738"), looks := false }, kinds := [], alts := [], laidByText := true, laidKinds := [.data, .data, .data], laidTests := true, laidLooks := .later }
def AsmPiecesUptoCardSaid : Prop := Claim7.holds Tryd.pinned (.plain (OpenSpec.upto asmPiecesSpec)) asmPiecesUptoCard

/-- THE SECOND FORM's CARD OF 'mimesislaw06.AsmLines'. -/
def asmLinesUptoCard : Claim7 := { stood := { row := asmLinesUptoRow, standIns := [], harness := (true, "379bb9740dcee708e54628b5f9eb815e8a3078b48da92db2e74f01d606b64738"), looks := false }, kinds := [], alts := [], laidByText := true, laidKinds := [.data, .data, .data], laidTests := true, laidLooks := .later }
def AsmLinesUptoCardSaid : Prop := Claim7.holds Tryd.pinned (.plain (OpenSpec.upto asmLinesSpec)) asmLinesUptoCard

/-- THE SECOND FORM's CARD OF 'mimesislaw06.AsmPrograms'. -/
def asmProgramsUptoCard : Claim7 := { stood := { row := asmProgramsUptoRow, standIns := [], harness := (true, "379bb9740dcee708e54628b5f9eb815e8a3078b48da92db2e74f01d606b64738"), looks := false }, kinds := [], alts := [], laidByText := true, laidKinds := [.data, .data, .data], laidTests := true, laidLooks := .later }
def AsmProgramsUptoCardSaid : Prop := Claim7.holds Tryd.pinned (.plain (OpenSpec.upto asmProgramsSpec)) asmProgramsUptoCard

/-- THE SECOND FORM's CARD OF 'mimesislaw06.AsmMany'. -/
def asmManyUptoCard : Claim7 := { stood := { row := asmManyUptoRow, standIns := [], harness := (true, "379bb9740dcee708e54628b5f9eb815e8a3078b48da92db2e74f01d606b64738"), looks := false }, kinds := [], alts := [], laidByText := true, laidKinds := [.data, .data, .data], laidTests := true, laidLooks := .later }
def AsmManyUptoCardSaid : Prop := Claim7.holds Tryd.pinned (.plain (OpenSpec.upto asmManySpec)) asmManyUptoCard

/-- THE SECOND FORM's CARD OF 'mimesislaw06.AsmBack'. -/
def asmBackUptoCard : Claim7 := { stood := { row := asmBackUptoRow, standIns := [], harness := (true, "379bb9740dcee708e54628b5f9eb815e8a3078b48da92db2e74f01d606b64738"), looks := false }, kinds := [], alts := [], laidByText := true, laidKinds := [.data, .data, .data], laidTests := true, laidLooks := .later }
def AsmBackUptoCardSaid : Prop := Claim7.holds Tryd.pinned (.plain (OpenSpec.upto asmBackSpec)) asmBackUptoCard
end Rows
end Go.Proofs.YtceelkmedfoefaaDoor
